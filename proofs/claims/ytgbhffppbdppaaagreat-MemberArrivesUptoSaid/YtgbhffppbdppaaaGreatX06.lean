/- YtgbhffppbdppaaaGreatX06: walks and contracts. -/
import Derived.Test.YtgbhffppbdppaaaGreatX05
import Derived.Shelf.Sort.Plain
import Derived.Ground.NamesProg
import Derived.Test.YtgbhffppbdppaaaGreatProg
import Derived.Shelf.Slices.In.SortNone

set_option linter.unusedVariables false
set_option linter.unusedSimpArgs false
set_option linter.unusedSectionVars false

namespace Go.Proofs
open Go.Shelf
def Tryz.sortStr_ren : Go.Shelf.Ren := ⟨fun | 190 => 59 | 125 => 85 | 258 => 90 | 128 => 109 | 129 => 110 | 302 => 113 | 303 => 114 | 304 => 115 | 305 => 116 | 306 => 117 | 307 => 118 | 308 => 119 | 309 => 120 | 310 => 121 | 333 => 135 | 329 => 131 | 330 => 132 | 334 => 136 | 335 => 137 | 336 => 138 | 344 => 148 | n => n, fun | 31 => 45 | 9 => 9 | 3 => 3 | 46 => 121 | 0 => 0 | 51 => 145 | 53 => 65 | 4 => 4 | 183 => 138 | 182 => 137 | 131 => 142 | 5 => 5 | 218 => 159 | 222 => 163 | 228 => 177 | 229 => 178 | n => n, fun | n => n⟩
theorem Tryz.sortStr : Go.Proofs.Lays.n190 Tryz.prog Tryz.sortStr_ren := {
  mixed := by kernel_rfl
  f125 := Tryz.func85.trans (congrArg some (by kernel_rfl))
  f128 := Tryz.func109.trans (congrArg some (by kernel_rfl))
  f129 := Tryz.func110.trans (congrArg some (by kernel_rfl))
  f190 := Tryz.func59.trans (congrArg some (by kernel_rfl))
  f258 := Tryz.func90.trans (congrArg some (by kernel_rfl))
  f302 := Tryz.func113.trans (congrArg some (by kernel_rfl))
  f303 := Tryz.func114.trans (congrArg some (by kernel_rfl))
  f304 := Tryz.func115.trans (congrArg some (by kernel_rfl))
  f305 := Tryz.func116.trans (congrArg some (by kernel_rfl))
  f306 := Tryz.func117.trans (congrArg some (by kernel_rfl))
  f307 := Tryz.func118.trans (congrArg some (by kernel_rfl))
  f308 := Tryz.func119.trans (congrArg some (by kernel_rfl))
  f309 := Tryz.func120.trans (congrArg some (by kernel_rfl))
  f310 := Tryz.func121.trans (congrArg some (by kernel_rfl))
  f329 := Tryz.func131.trans (congrArg some (by kernel_rfl))
  f330 := Tryz.func132.trans (congrArg some (by kernel_rfl))
  f333 := Tryz.func135.trans (congrArg some (by kernel_rfl))
  f334 := Tryz.func136.trans (congrArg some (by kernel_rfl))
  f335 := Tryz.func137.trans (congrArg some (by kernel_rfl))
  f336 := Tryz.func138.trans (congrArg some (by kernel_rfl))
  f344 := Tryz.func148.trans (congrArg some (by kernel_rfl))
  t0 := Tryz.underlying0
  a0 := Tryz.isAgg0
  z0 := Tryz.sizeOf0
  v0 := Tryz.zeroValue0
  t3 := Tryz.underlying3
  a3 := Tryz.isAgg3
  z3 := Tryz.sizeOf3
  v3 := Tryz.zeroValue3
  t4 := Tryz.underlying4
  a4 := Tryz.isAgg4
  z4 := Tryz.sizeOf4
  v4 := Tryz.zeroValue4
  t5 := Tryz.underlying5
  a5 := Tryz.isAgg5
  z5 := Tryz.sizeOf5
  v5 := Tryz.zeroValue5
  t9 := Tryz.underlying9
  a9 := Tryz.isAgg9
  z9 := Tryz.sizeOf9
  v9 := Tryz.zeroValue9
  t31 := Tryz.underlying45
  a31 := Tryz.isAgg45
  z31 := Tryz.sizeOf45
  v31 := Tryz.zeroValue45
  t46 := Tryz.underlying121
  a46 := Tryz.isAgg121
  z46 := Tryz.sizeOf121
  v46 := Tryz.zeroValue121
  t51 := Tryz.underlying145
  a51 := Tryz.isAgg145
  z51 := Tryz.sizeOf145
  v51 := Tryz.zeroValue145
  t53 := Tryz.underlying65
  a53 := Tryz.isAgg65
  z53 := Tryz.sizeOf65
  v53 := Tryz.zeroValue65
  t131 := Tryz.underlying142
  a131 := Tryz.isAgg142
  z131 := Tryz.sizeOf142
  v131 := Tryz.zeroValue142
  t182 := Tryz.underlying137
  a182 := Tryz.isAgg137
  z182 := Tryz.sizeOf137
  v182 := Tryz.zeroValue137
  t183 := Tryz.underlying138
  a183 := Tryz.isAgg138
  z183 := Tryz.sizeOf138
  v183 := Tryz.zeroValue138
  t218 := Tryz.underlying159
  a218 := Tryz.isAgg159
  z218 := Tryz.sizeOf159
  v218 := Tryz.zeroValue159
  t222 := Tryz.underlying163
  a222 := Tryz.isAgg163
  z222 := Tryz.sizeOf163
  v222 := Tryz.zeroValue163
  t228 := Tryz.underlying177
  a228 := Tryz.isAgg177
  z228 := Tryz.sizeOf177
  v228 := Tryz.zeroValue177
  t229 := Tryz.underlying178
  a229 := Tryz.isAgg178
  z229 := Tryz.sizeOf178
  v229 := Tryz.zeroValue178 }
end Go.Proofs

namespace Go.Abs
open Go.RowKit Go.Shelf Go.Sort
variable [Globals]
section
variable {P : Program} {ρ : Ren} {α : Type} [Inhabited α]
theorem AC.inPlace {f : FuncId} (k : Nat) (encV : α → List Value) (hk : ∀ x, (encV x).length = k) (h1 : ∀ x, ∀ v ∈ encV x, v.oneCell' = true)
    (hcall : ∀ (vals : Array Value) (w : World), (callFunc f vals).run P w = .ok (.enter f vals) w) (l l' : List α) (hl' : l'.length = l.length)
    (hnone : ∀ (a : Option Addr) (cap : Nat) (w : World), Calls P f #[.slice a 0 cap] w fun e w' => e = .returned (.tuple #[]) ∧ w' = w)
    (hsome : ∀ (b cap : Nat) (w : World), HoldsK encV k w b 0 l.toArray → b < w.heap.size → Calls P f #[.slice (some ⟨b, 0, none⟩) l.length cap] w fun e w' => e = .returned (.tuple #[]) ∧ ∃ n os, w' = Proofs.sortWorldK encV k w b 0 n l'.toArray os) :
    AC P f [.own 0] [(0, .row k l.length fun i => (encV (l.getD i default)).map .val)] (.pv (.tup [])) [(0, .row k l.length fun i => (encV (l'.getD i default)).map .val)] := by
  refine ⟨hcall, fun St M0 σ w vals hi hσ hos hsz hA => ?_⟩
  obtain ⟨loc, hloc, hor⟩ := hos 0 _ (by simp [getO]; rfl)
  have hv0 := arg_own (hA 0 (.own 0) rfl) hloc
  have hvals : vals = #[vals.getD 0 undef] := by
    have hs2 : vals.size = 1 := hsz
    apply Array.ext
    · simpa using hs2
    · intro i h2 h3
      have : i = 0 := by omega
      subst this; simp [Array.getD, hs2]
  rw [hvals, hv0]
  have done : ∀ w' : World, w' = w → l.length = 0 → ∃ v σ', Ending.returned (.tuple #[]) = .returned v ∧ Post P St M0 σ w [(0, .row k l.length fun i => (encV (l'.getD i default)).map .val)] (.pv (.tup [])) σ' v w' := by
    rintro w' rfl hl0
    refine ⟨_, σ, rfl, Post.redo hi ⟨loc, hloc, ?_⟩ (.pv _ _ (.tup _ _ rfl fun i p e => by simp at e))⟩
    have h0 : l = [] := List.length_eq_zero_iff.1 hl0
    subst h0
    have h1 : l' = [] := List.length_eq_zero_iff.1 (by simpa using hl')
    subst h1
    simpa using hor
  generalize hn0 : l.length = n0 at hor
  cases hor with
  | row0 _ _ a =>
    refine (hnone a 0 w).mono (fun e w' h => ?_)
    obtain ⟨rfl, hw⟩ := h
    have h5 := done w' hw hn0
    rw [hn0] at h5
    exact h5
  | row _ _ _ b cap vs t hb hn hmax hsz' hs hh hone =>
    subst hn0
    by_cases h0 : l.length = 0
    · have none' : ∀ n, n = 0 → Calls P f #[.slice (some ⟨b, 0, none⟩) n cap] w fun e w' => e = .returned (.tuple #[]) ∧ w' = w := by
        intro n hn
        rw [hn]
        exact hnone (some ⟨b, 0, none⟩) cap w
      have := none' l.length h0
      refine this.mono (fun e w' h => ?_)
      obtain ⟨rfl, hw⟩ := h
      exact done w' hw h0
    · have hblk := lt_of_block hb
      have hget : ∀ j, j < l.length * k → vs.getD j undef = (flatK encV k l.toArray)[j]! := by
        intro j hj
        have k0 : 0 < k := by rcases Nat.eq_zero_or_pos k with h | h; · subst h; simp at hj
                              · exact h
        have hd : j / k < l.length := (Nat.div_lt_iff_lt_mul k0).2 hj
        have hm : j % k < (encV (l.getD (j / k) default)).length := by rw [hk]; exact Nat.mod_lt _ k0
        have hp := hh (j / k) hd (j % k) (.val ((encV (l.getD (j / k) default))[j % k]'hm)) (by simp [hm])
        have hp := pr_val hp
        rw [show j / k * k + j % k = j from by rw [Nat.mul_comm]; exact Nat.div_add_mod j k] at hp
        rw [hp, get_flatK _ _ _ _ (by simpa using hj)]
        have e1 : l.toArray[j / k]! = l.getD (j / k) default := by simp [List.getD, hd]
        rw [e1, getElem!_pos (encV (l.getD (j / k) default)) (j % k) hm]
      have hH : HoldsK encV k w b 0 l.toArray := by
        intro j hj
        have hj' : j < l.length * k := by simpa using hj
        have hlt : j < vs.size := by rw [hsz']; exact Nat.lt_of_lt_of_le hj' (Nat.mul_le_mul_right _ hn)
        refine ⟨?_, ?_⟩
        · rw [Nat.zero_add, id, ← hget j hj']
          simp [World.cell?, hb, Array.getD, hlt]
        · simp [World.frozen?, hb]
      have := hsome b cap w hH hblk
      refine this.mono ?_
      rintro e w' ⟨rfl, n, os, rfl⟩
      have hx := sortWorld_ext (encV := encV) (k := k) (w := w) (b := b) (n := n) (d := l'.toArray) (os := os)
      have hrow := sortWorld_row (encV := encV) (k := k) (w := w) (b := b) (n := n) (d := l'.toArray) (os := os) hb
      have hlm : l'.length = l.length := hl'
      refine ⟨_, σ, rfl, Post.upd hi hloc rfl hx (by simp) (.row _ _ _ b cap _ t hrow hn hmax (by simp [Sort.putCells, hsz']) (fun i hi' => by simp [hk]) (fun i hi' j p e => ?_) (fun i hi' => ?_)) (.pv _ _ (.tup _ _ rfl fun i p e => by simp at e))⟩
      · rw [List.getElem?_map] at e
        cases hq : (encV (l'.getD i default))[j]? with
        | none => rw [hq] at e; cases e
        | some q =>
          rw [hq] at e; cases e
          have hj : j < k := by have := (List.getElem?_eq_some_iff.1 hq).1; rwa [hk] at this
          have hlt : i * k + j < l.length * k := idx_lt hi' hj
          have hltv : i * k + j < vs.size := by rw [hsz']; exact Nat.lt_of_lt_of_le hlt (Nat.mul_le_mul_right _ hn)
          have : (Sort.putCells id 0 (flatK encV k l'.toArray) vs).getD (i * k + j) undef = q := by
            simp only [Sort.putCells, Array.getD, Array.size_mapIdx, hltv, dif_pos, Array.getInternal_eq_getElem, Array.getElem_mapIdx]
            rw [if_pos (by simp [hlm]; exact hlt)]
            rw [Nat.sub_zero, id, get_flatK _ _ _ _ (by simp [hlm]; exact hlt)]
            have e1 : (i * k + j) / k = i := by rw [Nat.add_comm, Nat.add_mul_div_right _ _ (by omega), Nat.div_eq_of_lt hj, Nat.zero_add]
            have e2 : (i * k + j) % k = j := by rw [Nat.add_comm, Nat.add_mul_mod_self_right, Nat.mod_eq_of_lt hj]
            rw [e1, e2]
            have e3 : l'.toArray[i]! = l'.getD i default := by
              have : i < l'.length := by omega
              simp [List.getD, this]
            rw [e3]
            have hj2 := (List.getElem?_eq_some_iff.1 hq)
            obtain ⟨h3, h4⟩ := hj2
            rw [getElem!_pos (encV (l'.getD i default)) j h3, h4]
          rw [this]; exact .val q
      · have hltv : i < vs.size := by simpa [Sort.putCells] using hi'
        simp only [Sort.putCells, Array.getD, Array.size_mapIdx, hltv, dif_pos, Array.getInternal_eq_getElem, Array.getElem_mapIdx]
        split
        · rename_i hc
          have hf : i - 0 < (flatK encV k l'.toArray).size := by
            have := hc.2
            simp only [Nat.zero_add, Nat.sub_zero] at this ⊢
            exact this
          have k0 : 0 < k := by rcases Nat.eq_zero_or_pos k with h | h; · subst h; simp at hf
                                · exact h
          rw [id, get_flatK _ _ _ _ (by simpa using hf)]
          have hm : (i - 0) % k < (encV l'.toArray[(i - 0) / k]!).length := by rw [hk]; exact Nat.mod_lt _ k0
          rw [getElem!_pos (encV l'.toArray[(i - 0) / k]!) ((i - 0) % k) hm]
          exact h1 _ _ (List.getElem_mem hm)
        · have := hone i hltv
          simpa [Array.getD, hltv] using this
end
theorem map_getB {α β : Type} [Inhabited α] [Inhabited β] (f : α → β) (d : Array α) {i : Nat} (hi : i < d.size) : (d.map f)[i]! = f d[i]! := by
  rw [getElem!_pos (d.map f) i (by simpa using hi), getElem!_pos d i hi, Array.getElem_map]
theorem flatK_one {d : Array (List UInt8)} : flatK (fun s => [Proofs.encStr s]) 1 d = d.map Proofs.encStr := by
  apply Array.ext
  · simp [flatK]
  · intro i h1 h2
    have hi : i < d.size := by simpa using h2
    simp [flatK, Nat.div_one, Nat.mod_one, hi]
theorem putRow_one {w : World} {b : Nat} {d : Array (List UInt8)} : putRow Proofs.encStr w b 0 d = putRowK (fun s => [Proofs.encStr s]) 1 w b 0 d := by
  unfold putRowK putRow
  rw [flatK_one]
  congr 1
  funext c
  unfold Sort.putCells
  congr 1
  funext i x
  simp only [Array.size_map]
  split
  · rename_i h
    have hi : i - 0 < d.size := by omega
    exact (map_getB Proofs.encStr d hi).symm
  · rfl
section
variable {P : Program} {ρ : Ren}
theorem AC.sortStr (L : Proofs.Lays.n190 P ρ) (hcall : ∀ (vals : Array Value) (w : World), (callFunc (ρ.f 190) vals).run P w = .ok (.enter (ρ.f 190) vals) w) (l : List ByteArray) (hl : l.length < 4611686018427387904) :
    AC P (ρ.f 190) [.own 0] [(0, .row 1 l.length fun i => [.val (.string (l.getD i default))])] (.pv (.tup [])) [(0, .row 1 l.length fun i => [.val (.string ((l.mergeSort fun x y => !sLt y x).getD i default))])] := by
  have hmap : ((l.mergeSort fun x y => !sLt y x).map fun s => s.data.toList) = (l.map fun s : ByteArray => s.data.toList).mergeSort fun x y => decide (x ≤ y) := by
    refine List.map_mergeSort fun a _ b _ => ?_
    rw [Bool.eq_iff_iff]
    simp only [Bool.not_eq_true', decide_eq_true_eq]
    rw [← Bool.not_eq_true, sLt_iff]
    exact List.not_lt
  have key := AC.inPlace (P := P) (f := ρ.f 190) (α := List UInt8) 1 (fun s => [Proofs.encStr s]) (fun _ => rfl) (fun x v hv => by simp only [List.mem_singleton] at hv; subst hv; rfl) hcall
    (l.map fun s : ByteArray => s.data.toList) ((l.mergeSort fun x y => !sLt y x).map fun s => s.data.toList) (by simp)
    (fun a cap w => Proofs.Any.slices_Sort_string_none L a cap w)
    (fun b cap w hH hb => by
      have hH' : Holds Proofs.encStr w b 0 (l.map fun s : ByteArray => s.data.toList).toArray := by
        intro j hj
        have := hH j (by rw [flatK_one]; simpa using hj)
        rw [flatK_one] at this
        rw [map_getB Proofs.encStr _ hj] at this
        exact this
      refine (Proofs.Any.slices_Sort_string L b 0 cap _ w hH' hb (by simpa using hl)).mono ?_
      rintro e w' ⟨rfl, n, os, rfl⟩
      refine ⟨rfl, n, os, ?_⟩
      rw [hmap, putRow_one]
      rfl)
  have e1 : ∀ m : List ByteArray, (fun i => ((fun s => [Proofs.encStr s]) ((m.map fun s : ByteArray => s.data.toList).getD i default)).map PV.val) = fun i => [PV.val (.string (m.getD i default))] := by
    intro m
    funext i
    by_cases hi : i < m.length
    · simp [List.getD, hi, Proofs.encStr]
    · simp [List.getD, hi, Proofs.encStr]
      rfl
  rw [e1, e1, List.length_map] at key
  exact key
end
end Go.Abs

namespace Go.Abs
open Go.Proofs
set_option maxRecDepth 10000
theorem ac_slices_Sort_string (l : List ByteArray) (hl : l.length ≤ 8388608) : AC Tryz.prog 59 [.own 0] [(0, rowL 1 cstr l)] (.pv (.tup [])) [(0, rowL 1 cstr (sortedS l))] := by
  have := AC.sortStr Tryz.sortStr Tryz.call59 l (by omega)
  unfold rowL
  rw [sortedS_length]
  exact this
end Go.Abs

namespace Go.Abs
open Go.Proofs
set_option maxRecDepth 10000
theorem ac_member_Present (l : List Mem) (hl : smallL l) : AC Tryz.prog 27 [.pv (roL 5 cMem l)] [] (.pv (roL 1 cstr (presL l))) [] := by
  have hl : l.length ≤ 1048576 := hl
  refine AC.of_awp (T := T) T_ok hm Tryz.call27 Tryz.func27 rfl rfl rfl ?_
  conv => whnf
  refine loop_k (ι := Nat) [6, 7] [] (fun k => k ≤ l.length ∧ True) (fun k => l.length - k) 0 (fun k => [(3, .own 500), (8, .pv (vint k))]) (fun k => [(500, rowL 1 cstr (homeN (l.take k)))]) [] ⟨Nat.zero_le _, trivial⟩ ?_ (fun k hk => ?_)
  · (repeat' (first | exact PSub.rfl | exact rfl | exact PSubs.rfl | exact trivial | exact PSub.lit_sb rfl | refine And.intro ?_ ?_)); all_goals ((intro i hi; exact absurd hi (by simp [homeN])))
  obtain ⟨hkn, hinv⟩ := hk
  conv => whnf
  have hlen := homeN_length l k
  repeat (any_goals (first
    | (refine ⟨fun (h : (_ : Bool) = true) => ?_, fun (h : (_ : Bool) = false) => ?_⟩ <;> (try simp only [decide_eq_true_eq, decide_eq_false_iff_not, Bool.not_eq_true', Bool.not_eq_false', Int.toNat_natCast, beq_iff_eq, decide_eq_decide, beq_eq_false_iff_ne, ne_eq, reduceCtorEq] at h) <;> (conv => whnf))
    | (refine And.intro (by (try simp only [Int.toNat_natCast]); omega) ?_; conv => whnf)
    | (refine And.intro (show (_ : Bool) = true from by kernel_rfl) ?_; conv => whnf)
    | (refine .inl ⟨wrap64 (by omega), ?_⟩; conv => whnf)))
  · have hs := homeN_take (l := l) (k := k) (by omega)
    rw [if_pos h] at hs
    refine ⟨k + 1, [(500, 18)], ⟨by omega, trivial⟩, by omega, ?_⟩
    rw [hs]
    (repeat' (first | exact PSub.rfl | exact rfl | exact PSubs.rfl | exact trivial | exact PSub.lit_sb rfl | refine And.intro ?_ ?_))
    · simp [-List.getD_eq_getElem?_getD]
    · refine rows_snocF (fun i hi => by simp only [if_pos hi]; exact PSubs.rfl) (by simp only [if_neg (Nat.lt_irrefl _), Nat.sub_self]; exact PSubs.rfl)
  · have hs := homeN_take (l := l) (k := k) (by omega)
    rw [if_neg (by rw [h]; decide), List.append_nil] at hs
    refine ⟨k + 1, [], ⟨by omega, trivial⟩, by omega, ?_⟩
    rw [hs]
    (repeat' (first | exact PSub.rfl | exact rfl | exact PSubs.rfl | exact trivial | exact PSub.lit_sb rfl | refine And.intro ?_ ?_))
    all_goals (intro i hi; exact PSubs.rfl)
  · have e : k = l.length := by omega
    subst e
    rw [List.take_length] at *
    refine .inr (.inr (.inl ⟨_, _, ac_slices_Sort_string (homeN l) (by omega), ?_⟩))
    conv => whnf
    refine .inr (.inr (.inr (.inl ⟨_, _, _, ac_slices_Compact_string (sortedS (homeN l)) (by rw [sortedS_length]; omega), ?_⟩)))
    conv => whnf
    rw [sortedS_length, compS_sorted]
    exact .rfl
end Go.Abs

namespace Go.Abs
open Go.RowKit
variable [Globals]
def opSI (P : Program) (T : Tab) (nt : Nat) (o : Oper) (s : AState) (K : AState → Prop) : Prop :=
  match s with
  | ⟨tm, ob⟩ => match o with
    | ⟨none, op, ty, pos, after, guard⟩ => aopcN P T ⟨none, op, ty, pos, after, guard⟩ 0 (evO tm) (getO ob) fun v u => iceB op v u fun v u => nextS nt none ⟨tm, ob⟩ v u K
    | ⟨some d, op, ty, pos, after, guard⟩ => aopcN P T ⟨some d, op, ty, pos, after, guard⟩ d (evO tm) (getO ob) fun v u => iceB op v u fun v u => nextS nt (some d) ⟨tm, ob⟩ v u K
def arunI (P : Program) (T : Tab) (nt : Nat) (ops : List Oper) : List Oper → AState → (AState → Prop) → Prop
  | [], s, K => K s
  | o :: r, s, K => guardK ops o.guard s fun b s => match b with
    | true => opSI P T nt o s fun s => arunI P T nt ops r s K
    | false => nextS nt o.dst s skipV [] fun s => arunI P T nt ops r s K
section
variable {P : Program} {T : Tab} {E : FEnv}
theorem opSI_sound (hE : E.ok) (hT : T.ok P) {o : Oper} {s : AState} {K : AState → Prop} {σ : Sig} {a : Act} {w : World} {Q : Exit → Act → World → Prop} (hR : Rel P E s σ a w) (h : opSI P T E.nt o s K) :
    o.wp P a w (fun a' w' => ∃ s' σ', K s' ∧ Rel P E s' σ' a' w') Q := by
  obtain ⟨tm, ob⟩ := s
  have h2 : aopcN P T o (idOf o.dst) (evO tm) (getO ob) fun v u => iceB o.op v u fun v u => nextS E.nt o.dst ⟨tm, ob⟩ v u K := by
    obtain ⟨d, op, ty, pos, after, guard⟩ := o
    cases d <;> exact h
  have hi := hR.inv hE
  have wrap : ∀ (v : AV) (u : Upd), nextS E.nt o.dst ⟨tm, ob⟩ v u K → K ⟨putT tm o.dst v, u ++ ob⟩ ∧ ∀ t, o.dst = some t → t < E.nt := by
    intro v u hK
    refine ⟨?_, fun t ht => ?_⟩
    · cases hd' : o.dst with
      | none =>
        rw [hd'] at hK
        unfold nextS at hK
        simp only at hK
        match u, hK with
        | [], hK => exact hK
        | [x], hK => exact hK
        | x :: y :: r, hK => exact hK
      | some t =>
        rw [hd'] at hK
        unfold nextS at hK
        have hK := (chk_true hK).2
        match u, hK with
        | [], hK => exact hK
        | [x], hK => exact hK
        | x :: y :: r, hK => exact hK
    · rw [ht] at hK
      unfold nextS at hK
      exact Nat.le_of_ble_eq_true (chk_true hK).1
  obtain ⟨v0, u0, hK0, hS0⟩ := aopcN_sound hT h2
  obtain ⟨v, u, hK, hS⟩ := iceB_sound hK0 hS0
  have hnear : ∀ k, near o (evO tm) (getO ob) k → getO ob k ≠ none := by
    rintro k (⟨x, hx, hk⟩ | ⟨x, hx, l, hl, obj, hob, hk⟩ | ⟨x, hx, m, hm, obj', hob', l, hl, obj, hob, hk⟩)
    · exact evO_refs hR x k hk
    · exact hR.wo l obj hob k hk
    · exact hR.wo l obj hob k hk
  obtain ⟨hK', hd⟩ := wrap v u hK
  refine (hS.runs E.St E.M0 σ w a.eval hi (fun x _ => evO_rel hE hR x) (fun k _ obj e => hR.ob k obj e) hnear (fun l _ h1 => hR.nob l h1)).wp (fun v' w' ⟨σ', hp⟩ => ?_)
  refine ⟨_, σ', hK', RelF.post (tmf' := getT (putT tm o.dst v)) (obf' := getO (u ++ ob)) hE hR hp hd (fun l obj e => (hS.lv l obj e).2) (fun l hl => (hS.rv l hl).imp (hnear l) id) (fun i obj e l hl => (hS.ro i obj e l hl).imp (hnear l) id) (fun t => ?_) (fun l => ?_)⟩
  · cases hd' : o.dst with
    | none => exact .inr ⟨by simp, by simp [putT]⟩
    | some d =>
      simp only [putT, getT_cons, Option.some.injEq]
      by_cases e : d = t
      · exact .inl ⟨e, by rw [if_pos e]⟩
      · exact .inr ⟨fun h => e (Option.some.inj h), by rw [if_neg e]⟩
  · simp only [getO_append]
    cases e : getO u l with
    | none => exact .inr ⟨rfl, rfl⟩
    | some x => exact .inl ⟨x, rfl, rfl⟩
theorem arunI_sound (hE : E.ok) (hT : T.ok P) {ops : Array Oper} {K : AState → Prop} {Q : Exit → Act → World → Prop} (hQ : ∀ s σ a w, K s → Rel P E s σ a w → Q .normal a w) :
    ∀ (l : List Oper) (i : Nat) (s : AState) (σ : Sig) (a : Act) (w : World), (∀ j, l[j]? = ops[i + j]?) → Rel P E s σ a w → arunI P T E.nt ops.toList l s K → wpOps P ops Q (List.range' i l.length) a w
  | [], i, s, σ, a, w, _, hR, h => by simpa [wpOps] using hQ s σ a w h hR
  | o :: l, i, s, σ, a, w, hl, hR, h => by
    have ho : ops[i]? = some o := by simpa using (hl 0).symm
    have hl' : ∀ j, l[j]? = ops[i + 1 + j]? := fun j => by have := hl (j + 1); simpa [Nat.add_assoc, Nat.add_comm 1 j] using this
    simp only [List.length_cons, List.range'_succ, wpOps, ho]
    unfold arunI at h
    obtain ⟨s', hK, hR'⟩ := guardK_sound (ops := ops) hR h
    cases hw : Region.wanted o (yielded ops a.tmps) with
    | true =>
      rw [hw] at hK
      simp only [if_true]
      exact .inl (Oper.wp_mono (fun a' w' ⟨s2, σ2, hs2, hR2⟩ => arunI_sound hE hT hQ l (i + 1) s2 σ2 a' w' hl' hR2 hs2) (opSI_sound hE hT hR' hK))
    | false =>
      rw [hw] at hK
      simp only [Bool.false_eq_true, if_false]
      obtain ⟨tm, ob⟩ := s'
      have hd : ∀ t, o.dst = some t → t < E.nt := by
        intro t ht
        simp only [ht] at hK
        unfold nextS at hK
        exact Nat.le_of_ble_eq_true (chk_true hK).1
      have h2 := hR'.skip o.dst hd
      refine arunI_sound hE hT hQ l (i + 1) _ σ _ w hl' h2 ?_
      cases hd' : o.dst with
      | none => rw [hd'] at hK; exact hK
      | some t => rw [hd'] at hK; exact (chk_true hK).2
end
def awpI (P : Program) (T : Tab) (nt : Nat) : Code → AState → (AExit → AState → Prop) → Prop
  | .skip, s, Q => Q .normal s
  | .region _ ops false, s, Q => arunI P T nt ops.toList ops.toList s (Q .normal)
  | .region _ ops true, s, Q => drawOk ops.toList = true ∧ arunD P T nt ops.toList ops.toList s [] (fun s log => logOk ops.toList log = true ∧ Q .normal s)
  | .seq x y, s, Q => awpI P T nt x s (thenK (fun s => awpI P T nt y s Q) Q)
  | .cond c x y, s, Q => match s with
    | ⟨tm, ob⟩ => match evO tm c with
      | .pv (.val (.bool b)) => (match b with | true => awpI P T nt x ⟨tm, ob⟩ Q | false => awpI P T nt y ⟨tm, ob⟩ Q)
      | .pv (.sb b) => (b = true → awpI P T nt x ⟨tm, ob⟩ Q) ∧ (b = false → awpI P T nt y ⟨tm, ob⟩ Q)
      | _ => False
  | .block id c, s, Q => awpI P T nt c s (blockK id Q)
  | .loop c, s, Q => ∃ (ι : Type) (J : ι → Prop) (I : ι → AState) (m : ι → Nat) (i0 : ι) (r : List (Nat × Nat)), J i0 ∧ entS r s (I i0) ∧
      ∀ i, J i → awpI P T nt c (I i) (thenK (fun s' => ∃ (j : ι) (r : List (Nat × Nat)), J j ∧ m j < m i ∧ entS r s' (I j)) Q)
  | .exit id, s, Q => Q (.exit id) s
  | .ret, s, Q => Q .ret s
  | _, _, _ => False
section
variable {P : Program} {T : Tab} {E : FEnv}
theorem awpI_sound (hE : E.ok) (hT : T.ok P) (hm : P.follows .mixedOrders = true) : ∀ (c : Code) (s : AState) (Q : AExit → AState → Prop) (σ : Sig) (a : Act) (w : World), Rel P E s σ a w → awpI P T E.nt c s Q → c.wp P (exitQ P E Q) a w
  | .skip, s, Q, σ, a, w, hR, h => wp_skip ⟨s, σ, h, hR⟩
  | .region id ops dr, s, Q, σ, a, w, hR, h => by
    cases dr with
    | false =>
      refine wp_region ?_
      have := arunI_sound hE hT (Q := exitQ P E Q) (fun s σ a w hs hR => ⟨s, σ, hs, hR⟩) ops.toList 0 s σ a w (fun j => by simp) hR h
      rw [List.range_eq_range']
      simpa using this
    | true =>
      obtain ⟨h1, h2⟩ := h
      exact wp_region_any hm (arunD_sound hE hT h1 (fun s σ a w hs hR => ⟨s, σ, hs, hR⟩) (RelF.drew hR _ (Nat.le_succ _)) h2)
  | .seq x y, s, Q, σ, a, w, hR, h => by
    refine wp_seq (wp_mono (awpI_sound hE hT hm x s _ σ a w hR h) (fun e a' w' he => ?_))
    cases e with
    | normal => obtain ⟨s', σ', hq, hR'⟩ := he; exact awpI_sound hE hT hm y s' Q σ' a' w' hR' hq
    | exit i => exact he
    | ret => exact he
    | goto l => exact he.elim
    | panic c => exact he.elim
    | outgrown => exact he.elim
  | .cond c x y, s, Q, σ, a, w, hR, h => by
    obtain ⟨tm, ob⟩ := s
    have hc := evO_rel hE hR c
    unfold awpI at h
    simp only at h
    split at h
    · rename_i b hb
      rw [show evO tm c = .pv (.val (.bool b)) from hb] at hc
      have hv := pr_val (arg_pv hc)
      refine wp_cond hv ?_
      cases b with
      | true => exact awpI_sound hE hT hm x _ Q σ a w hR h
      | false => exact awpI_sound hE hT hm y _ Q σ a w hR h
    · rename_i b hb
      rw [show evO tm c = .pv (.sb b) from hb] at hc
      have hv := pr_sb (arg_pv hc)
      refine wp_cond hv ?_
      cases b with
      | true => exact awpI_sound hE hT hm x _ Q σ a w hR (h.1 rfl)
      | false => exact awpI_sound hE hT hm y _ Q σ a w hR (h.2 rfl)
    · exact h.elim
  | .block id c, s, Q, σ, a, w, hR, h => by
    refine wp_block (wp_mono (awpI_sound hE hT hm c s _ σ a w hR h) (fun e a' w' he => ?_))
    cases e with
    | normal => exact he
    | exit i =>
      obtain ⟨s', σ', hq, hR'⟩ := he
      have hq : (match Nat.beq i id with | true => Q .normal s' | false => Q (.exit i) s') := hq
      simp only [Exit.inBlock]
      cases hb : Nat.beq i id with
      | true =>
        rw [hb] at hq
        rw [if_pos (Nat.eq_of_beq_eq_true hb)]
        exact ⟨s', σ', hq, hR'⟩
      | false =>
        rw [hb] at hq
        rw [if_neg (fun e => by rw [e] at hb; simp at hb)]
        exact ⟨s', σ', hq, hR'⟩
    | ret => exact he
    | goto l => exact he.elim
    | panic c => exact he.elim
    | outgrown => exact he.elim
  | .loop c, s, Q, σ, a, w, hR, h => by
    obtain ⟨ι, J, I, m, i0, r0, hJ, hent, hround⟩ := h
    obtain ⟨σ0, hR0⟩ := entS_sound hent E σ a w hE hR
    refine wp_loop_ix (I := fun i a w => J i ∧ ∃ σ, Rel P E (I i) σ a w) m (i0 := i0) ⟨hJ, σ0, hR0⟩ (fun i a w ⟨hj, σ, hr⟩ => ?_)
    refine wp_mono (awpI_sound hE hT hm c (I i) _ σ a w hr (hround i hj)) (fun e a' w' he => ?_)
    cases e with
    | normal =>
      obtain ⟨s', σ', ⟨j, r', hj', hlt, hent'⟩, hR'⟩ := he
      obtain ⟨σ2, hR2⟩ := entS_sound hent' E σ' a' w' hE hR'
      exact ⟨j, ⟨hj', σ2, hR2⟩, hlt⟩
    | exit i => exact he
    | ret => exact he
    | goto l => exact he.elim
    | panic c => exact he.elim
    | outgrown => exact he.elim
  | .exit id, s, Q, σ, a, w, hR, h => wp_exit ⟨s, σ, h, hR⟩
  | .ret, s, Q, σ, a, w, hR, h => wp_ret ⟨s, σ, h, hR⟩
  | .rangeFunc .., s, Q, σ, a, w, hR, h => h.elim
  | .scope _, s, Q, σ, a, w, hR, h => h.elim
  | .label _, s, Q, σ, a, w, hR, h => h.elim
  | .goto _, s, Q, σ, a, w, hR, h => h.elim
  | .refuse _, s, Q, σ, a, w, hR, h => h.elim
end
theorem AC.of_awp_ice {P : Program} {T : Tab} {f : FuncId} {fn : Func} {c : Code} {args : List AV} {res : PV} (hT : T.ok P) (hm : P.follows .mixedOrders = true) (hcall : ∀ (vals : Array Value) (w : World), (callFunc f vals).run P w = .ok (.enter f vals) w)
    (hf : P.funcs[f]? = some fn) (hb : fn.body = some c) (hn : Nat.ble args.length fn.ntmps = true) (hp : noRefs args = true) (h : awpI P T fn.ntmps c ⟨argTm 0 args, []⟩ (pureQ T fn res)) : AC P f args [] (.pv res) [] := by
  refine ⟨hcall, fun St M0 σ w vals hi hσ _ hl hA => ?_⟩
  have hσ' : σ = fun _ => none := funext fun l => hσ l rfl
  subst hσ'
  have hown : ∀ b, ¬ owned (fun _ => none) b := fun b ⟨l, loc, h, _⟩ => by cases h
  have hle := Nat.le_of_ble_eq_true hn
  have hE : FEnv.ok ⟨fn.ntmps, St, M0, fun _ => False, w, fun _ => none⟩ := ⟨fun b hb => ⟨(hi.m0 b hb).1, id⟩, fun b hb => ⟨(hi.st b hb).1, id⟩, hi.gl.mono (Same.refl _ w) (fun b _ hb => .inl (hb.elim id False.elim)), fun _ _ e => by cases e⟩
  have hget : ∀ t x, getT (argTm 0 args) t = x → x = .junk ∨ args[t]? = some x := by
    intro t x e
    rw [argTm_get, if_neg (by omega)] at e
    cases ha : args[t - 0]? with
    | none => rw [ha] at e; exact .inl e.symm
    | some y => rw [ha] at e; simp at e ha; subst e; exact .inr rfl
  have hR : Rel P ⟨fn.ntmps, St, M0, fun _ => False, w, fun _ => none⟩ ⟨argTm 0 args, []⟩ (fun _ => none) { tmps := vals ++ Array.replicate (fn.ntmps - vals.size) undef, defers := [] } w := by
    refine ⟨by simp; omega, rfl, fun t => ?_, fun l o e => by simp [getO] at e, fun _ _ => rfl, fun t l hl' => ?_, fun i o e => by simp [getO] at e, fun l l' loc loc' b e => (by cases e), fun b hb => absurd hb (hown b), FExt.refl _ w, fun _ _ e => by cases e⟩
    · rcases hget t _ rfl with e | e
      · rw [e]; exact .junk _
      · have := hA t _ e
        have hlt : t < args.length := (List.getElem?_eq_some_iff.1 e).1
        rw [getD_append_left (by omega)]
        exact this
    · rcases hget t _ rfl with e | e
      · rw [e] at hl'; simp [refs] at hl'
      · rw [noRefs_spec hp t _ e] at hl'; simp at hl'
  refine calls_of_wp hf hb (wp_mono (awpI_sound hE hT hm c _ _ _ _ w hR h) (fun e a' w' he => ?_))
  have fin : (∃ s σ, resQ T fn.results.toList res s ∧ Rel P ⟨fn.ntmps, St, M0, fun _ => False, w, fun _ => none⟩ s σ a' w') → a'.defers = [] ∧ ∃ v, (results fn a'.tmps).run P w' = .ok v w' ∧ ∃ v_1 σ', Ending.returned v = .returned v_1 ∧ Post P St M0 (fun _ => none) w [] (.pv res) σ' v_1 w' := by
    rintro ⟨s, σ, hq, hR'⟩
    obtain ⟨v, hr, hpv⟩ := results_run hE hT hR' hq
    refine ⟨hR'.df, v, hr, v, fun _ => none, rfl, ?_⟩
    refine ⟨.pv _ _ (hpv.mono (Same.refl _ w') (fun b _ hb => ?_)), fun l o e => by simp [getO] at e, fun _ _ => rfl, fun l loc loc' e => (by cases e), fun l l' loc loc' b e => (by cases e), fun b hb => absurd hb (hown b), hR'.ext.mono (fun _ _ h => h.elim)⟩
    rcases hb with hb | hb
    · exact hb
    · exact absurd hb (hown b)
  cases e with
  | normal => exact fin he
  | ret => exact fin he
  | exit i => obtain ⟨s, σ, hq, _⟩ := he; exact hq.elim
  | goto l => exact he.elim
  | panic c => exact he.elim
  | outgrown => exact he.elim
end Go.Abs

namespace Go.Abs
open Go.Proofs
set_option maxRecDepth 10000
def wideC (c : Clu) : Bool := decide (15 < c.attrs.length) || (decide (15 < c.commands.length) || decide (15 < c.events.length))
def wideD (d : Dev) : Bool := decide (15 < d.clusters.length)
def wideM (m : Mem) : Bool := decide (40 < m.spans.length) || decide (40 < m.rooms.length)
def largeM (H : Hom) (l : List Mem) : Bool := decide (12 < H.clusters.length ∨ 24 < H.devices.length ∨ 20 < l.length) || (anyN H.clusters.length (fun i => wideC (H.clusters.getD i default)) || (anyN H.devices.length (fun i => wideD (H.devices.getD i default)) || anyN l.length (fun i => wideM (l.getD i default))))
theorem ac_law47_large (H : Hom) (l : List Mem) (hH : smallH H) (hg : goodM l) : AC Tryz.prog 10 [.pv (.agg (cHom H)), .pv (roL 5 cMem l)] [] (.pv (vbool (largeM H l))) [] := by
  have h1 : H.clusters.length ≤ 1048576 := hH.1.1
  have h2 : H.devices.length ≤ 1048576 := hH.2.1
  have h3 : l.length ≤ 1048576 := hg.1
  refine AC.of_awp (T := T) T_ok hm Tryz.call10 Tryz.func10 rfl rfl rfl ?_
  conv => whnf
  repeat (any_goals (first
    | (refine ⟨fun (h : (_ : Bool) = true) => ?_, fun (h : (_ : Bool) = false) => ?_⟩ <;> (try simp only [decide_eq_true_eq, decide_eq_false_iff_not, Bool.not_eq_true', Bool.not_eq_false', Int.toNat_natCast, beq_iff_eq, decide_eq_decide, beq_eq_false_iff_ne, ne_eq, reduceCtorEq] at h) <;> (conv => whnf))
    | (refine And.intro (by (try simp only [Int.toNat_natCast]); omega) ?_; conv => whnf)
    | (refine And.intro (show (_ : Bool) = true from by kernel_rfl) ?_; conv => whnf)
    | (refine .inl ⟨wrap64 (by omega), ?_⟩; conv => whnf)))
  · exact PSub.lit_sb (by unfold largeM; rw [decide_eq_true (.inl (by omega))]; rfl)
  · exact PSub.lit_sb (by unfold largeM; rw [decide_eq_true (.inr (.inl (by omega)))]; rfl)
  · exact PSub.lit_sb (by unfold largeM; rw [decide_eq_true (.inr (.inr (by omega)))]; rfl)
  have h0 : decide (12 < H.clusters.length ∨ 24 < H.devices.length ∨ 20 < l.length) = false := decide_eq_false (by omega)
  have found : ∀ k, k < H.clusters.length → wideC (H.clusters.getD k default) = true → largeM H l = true := fun k hk hw => by
    unfold largeM
    rw [anyN_true hk hw]; simp
  have found2 : ∀ k, k < H.devices.length → wideD (H.devices.getD k default) = true → largeM H l = true := fun k hk hw => by
    unfold largeM
    rw [anyN_true hk hw]; simp
  have found3 : ∀ k, k < l.length → wideM (l.getD k default) = true → largeM H l = true := fun k hk hw => by
    unfold largeM
    rw [anyN_true hk hw]; simp
  refine loop_k (ι := Nat) [1, 2] [2] (fun k => k ≤ H.clusters.length ∧ (∀ j, j < k → wideC (H.clusters.getD j default) = false)) (fun k => H.clusters.length - k) 0 (fun k => [(5, .pv (vint k))]) (fun _ => []) [] ⟨Nat.zero_le _, fun j h => absurd h (by omega)⟩ ?_ (fun k hk => ?_)
  · (repeat' (first | exact PSub.rfl | exact rfl | exact PSubs.rfl | exact trivial | exact PSub.lit_sb rfl | refine And.intro ?_ ?_))
  obtain ⟨hkn, hinv⟩ := hk
  conv => whnf
  repeat (any_goals (first
    | (refine ⟨fun (h : (_ : Bool) = true) => ?_, fun (h : (_ : Bool) = false) => ?_⟩ <;> (try simp only [decide_eq_true_eq, decide_eq_false_iff_not, Bool.not_eq_true', Bool.not_eq_false', Int.toNat_natCast, beq_iff_eq, decide_eq_decide, beq_eq_false_iff_ne, ne_eq, reduceCtorEq] at h) <;> (conv => whnf))
    | (refine And.intro (by (try simp only [Int.toNat_natCast]); omega) ?_; conv => whnf)
    | (refine And.intro (show (_ : Bool) = true from by kernel_rfl) ?_; conv => whnf)
    | (refine .inl ⟨wrap64 (by omega), ?_⟩; conv => whnf)))
  · exact PSub.lit_sb (found k (by omega) (by unfold wideC; rw [decide_eq_true (show 15 < (H.clusters.getD k default).attrs.length by omega)]; rfl)).symm
  · exact PSub.lit_sb (found k (by omega) (by unfold wideC; rw [decide_eq_true (show 15 < (H.clusters.getD k default).commands.length by omega)]; simp)).symm
  · exact PSub.lit_sb (found k (by omega) (by unfold wideC; rw [decide_eq_true (show 15 < (H.clusters.getD k default).events.length by omega)]; simp)).symm
  · have hw : wideC (H.clusters.getD k default) = false := by
      unfold wideC
      rw [decide_eq_false (show ¬ 15 < (H.clusters.getD k default).attrs.length by omega), decide_eq_false (show ¬ 15 < (H.clusters.getD k default).commands.length by omega), decide_eq_false (show ¬ 15 < (H.clusters.getD k default).events.length by omega)]; rfl
    refine ⟨k + 1, [], ⟨by omega, ?_⟩, by first | omega | (dsimp only; omega), ?_⟩
    rotate_left
    · (repeat' (first | exact PSub.rfl | exact rfl | exact PSubs.rfl | exact trivial | exact PSub.lit_sb rfl | refine And.intro ?_ ?_))
    intro j hj
    by_cases e : j = k
    · rw [e]; exact hw
    · exact hinv j (by omega)
  · have hc0 : (anyN H.clusters.length fun i => wideC (H.clusters.getD i default)) = false := anyN_false fun j hj => hinv j (by omega)
    clear hinv hkn h
    refine loop_k (ι := Nat) [1, 2] [2] (fun q => q ≤ H.devices.length ∧ (∀ j, j < q → wideD (H.devices.getD j default) = false)) (fun q => H.devices.length - q) 0 (fun q => [(7, .pv (vint q))]) (fun _ => []) [] ⟨Nat.zero_le _, fun j h => absurd h (by omega)⟩ ?_ (fun q hk => ?_)
    · (repeat' (first | exact PSub.rfl | exact rfl | exact PSubs.rfl | exact trivial | exact PSub.lit_sb rfl | refine And.intro ?_ ?_))
    obtain ⟨hkn, hinv⟩ := hk
    conv => whnf
    repeat (any_goals (first
      | (refine ⟨fun (h : (_ : Bool) = true) => ?_, fun (h : (_ : Bool) = false) => ?_⟩ <;> (try simp only [decide_eq_true_eq, decide_eq_false_iff_not, Bool.not_eq_true', Bool.not_eq_false', Int.toNat_natCast, beq_iff_eq, decide_eq_decide, beq_eq_false_iff_ne, ne_eq, reduceCtorEq] at h) <;> (conv => whnf))
      | (refine And.intro (by (try simp only [Int.toNat_natCast]); omega) ?_; conv => whnf)
      | (refine And.intro (show (_ : Bool) = true from by kernel_rfl) ?_; conv => whnf)
      | (refine .inl ⟨wrap64 (by omega), ?_⟩; conv => whnf)))
    · exact PSub.lit_sb (found2 q (by omega) (decide_eq_true (show 15 < (H.devices.getD q default).clusters.length by omega))).symm
    · have hw : wideD (H.devices.getD q default) = false := decide_eq_false (show ¬ 15 < (H.devices.getD q default).clusters.length by omega)
      refine ⟨q + 1, [], ⟨by omega, ?_⟩, by first | omega | (dsimp only; omega), ?_⟩
      rotate_left
      · (repeat' (first | exact PSub.rfl | exact rfl | exact PSubs.rfl | exact trivial | exact PSub.lit_sb rfl | refine And.intro ?_ ?_))
      intro j hj
      by_cases e : j = q
      · rw [e]; exact hw
      · exact hinv j (by omega)
    · have hd0 : (anyN H.devices.length fun i => wideD (H.devices.getD i default)) = false := anyN_false fun j hj => hinv j (by omega)
      clear hinv hkn h
      refine loop_k (ι := Nat) [1] [] (fun p => p ≤ l.length ∧ (∀ j, j < p → wideM (l.getD j default) = false)) (fun p => l.length - p) 0 (fun p => [(8, .pv (vint p))]) (fun _ => []) [] ⟨Nat.zero_le _, fun j h => absurd h (by omega)⟩ ?_ (fun p hk => ?_)
      · (repeat' (first | exact PSub.rfl | exact rfl | exact PSubs.rfl | exact trivial | exact PSub.lit_sb rfl | refine And.intro ?_ ?_))
      obtain ⟨hkn, hinv⟩ := hk
      conv => whnf
      repeat (any_goals (first
        | (refine ⟨fun (h : (_ : Bool) = true) => ?_, fun (h : (_ : Bool) = false) => ?_⟩ <;> (try simp only [decide_eq_true_eq, decide_eq_false_iff_not, Bool.not_eq_true', Bool.not_eq_false', Int.toNat_natCast, beq_iff_eq, decide_eq_decide, beq_eq_false_iff_ne, ne_eq, reduceCtorEq] at h) <;> (conv => whnf))
        | (refine And.intro (by (try simp only [Int.toNat_natCast]); omega) ?_; conv => whnf)
        | (refine And.intro (show (_ : Bool) = true from by kernel_rfl) ?_; conv => whnf)
        | (refine .inl ⟨wrap64 (by omega), ?_⟩; conv => whnf)))
      · exact PSub.lit_sb (found3 p (by omega) (by unfold wideM; rw [decide_eq_true (show 40 < (l.getD p default).spans.length by omega)]; rfl)).symm
      · exact PSub.lit_sb (found3 p (by omega) (by unfold wideM; rw [decide_eq_true (show 40 < (l.getD p default).rooms.length by omega)]; simp)).symm
      · have hw : wideM (l.getD p default) = false := by
          unfold wideM
          rw [decide_eq_false (show ¬ 40 < (l.getD p default).spans.length by omega), decide_eq_false (show ¬ 40 < (l.getD p default).rooms.length by omega)]; rfl
        refine ⟨p + 1, [], ⟨by omega, ?_⟩, by first | omega | (dsimp only; omega), ?_⟩
        rotate_left
        · (repeat' (first | exact PSub.rfl | exact rfl | exact PSubs.rfl | exact trivial | exact PSub.lit_sb rfl | refine And.intro ?_ ?_))
        intro j hj
        by_cases e : j = p
        · rw [e]; exact hw
        · exact hinv j (by omega)
      · refine PSub.lit_sb ?_
        unfold largeM
        rw [h0, hc0, hd0, anyN_false fun j hj => hinv j (by omega)]; rfl
theorem ac_law47_guest (H : Hom) (l : List Mem) (m : Int) (k : Key) (hH : smallH H) (hg : goodM l) : AC Tryz.prog 32 [.pv (.agg (cHom H)), .pv (roL 5 cMem l), .pv (vint m), .pv (.agg (cKey k))] [] (.pv (vint (canE H l (⟨#[103, 117, 115]⟩ : ByteArray) m (wrQ k)))) [] := by
  refine AC.of_awp (T := T) T_ok hm Tryz.call32 Tryz.func32 rfl rfl rfl ?_
  conv => whnf
  repeat (any_goals (first
    | (refine ⟨fun (h : (_ : Bool) = true) => ?_, fun (h : (_ : Bool) = false) => ?_⟩ <;> (try simp only [decide_eq_true_eq, decide_eq_false_iff_not, Bool.not_eq_true', Bool.not_eq_false', Int.toNat_natCast, beq_iff_eq, decide_eq_decide, beq_eq_false_iff_ne, ne_eq, reduceCtorEq] at h) <;> (conv => whnf))
    | (refine .inl ⟨_, ac_member_Can H l (⟨#[103, 117, 115]⟩ : ByteArray) m (wrQ k) hH (small_keys H _) hg, ?_⟩; conv => whnf)
    | (refine And.intro (by (try simp only [Int.toNat_natCast]); omega) ?_; conv => whnf)
    | (refine And.intro (show (_ : Bool) = true from by kernel_rfl) ?_; conv => whnf)
    | (refine .inl ⟨wrap64 (by omega), ?_⟩; conv => whnf)))
  exact .rfl
def homeM : Hom := ⟨[⟨(⟨#[97]⟩ : ByteArray), [⟨(⟨#[111, 110]⟩ : ByteArray), 1, 0, 0, [], true, false⟩, ⟨(⟨#[108, 111, 99, 107]⟩ : ByteArray), 1, 0, 0, [], true, true⟩], [], []⟩], [⟨3, 1, 0, false, 0, (⟨#[104, 97, 108, 108]⟩ : ByteArray), [(⟨#[97]⟩ : ByteArray)]⟩, ⟨4, 2, 0, false, 0, (⟨#[107, 105, 116, 99, 104, 101, 110]⟩ : ByteArray), [(⟨#[97]⟩ : ByteArray)]⟩]⟩
theorem smallK_M : smallK (homeM.clusters.getD 0 default) := by
  refine ⟨sl rfl, fun i => ?_, sl rfl, fun i => ?_, sl rfl⟩
  · match i with
    | 0 => exact sl rfl
    | 1 => exact sl rfl
    | i + 2 =>
      have : (homeM.clusters.getD 0 default).attrs.getD (i + 2) default = default := rfl
      rw [this]; exact Nat.zero_le _
  · have : (homeM.clusters.getD 0 default).commands.getD i default = default := rfl
    rw [this]; exact ⟨Nat.zero_le _, Nat.zero_le _⟩
theorem smallH_M : smallH homeM := by
  refine ⟨⟨sl rfl, fun i => ?_⟩, sl rfl, fun i => ?_⟩
  · cases i with
    | zero => exact smallK_M
    | succ i =>
      have : homeM.clusters.getD (i + 1) default = default := rfl
      rw [this]; exact small_default
  · match i with
    | 0 => exact ⟨sl rfl, by decide, by decide⟩
    | 1 => exact ⟨sl rfl, by decide, by decide⟩
    | i + 2 =>
      have : homeM.devices.getD (i + 2) default = default := rfl
      rw [this]; exact ⟨Nat.zero_le _, by decide, by decide⟩
def memsM : List Mem := [⟨(⟨#[97, 110, 110]⟩ : ByteArray), 4, [], [], false⟩, ⟨(⟨#[103, 117, 115]⟩ : ByteArray), 1, [⟨480, 600⟩], [(⟨#[104, 97, 108, 108]⟩ : ByteArray)], true⟩]
theorem good_M : goodM memsM := ⟨sl rfl, fun i hi => match i, hi with
  | 0, _ => ⟨sl rfl, sl rfl⟩
  | 1, _ => ⟨sl rfl, sl rfl⟩
  | i + 2, hi => absurd hi (by show ¬ i + 2 < 2; omega)⟩
def lampM : Key := ⟨3, (⟨#[97]⟩ : ByteArray), (⟨#[111, 110]⟩ : ByteArray)⟩
def lockM : Key := ⟨3, (⟨#[97]⟩ : ByteArray), (⟨#[108, 111, 99, 107]⟩ : ByteArray)⟩
def otherM : Key := ⟨4, (⟨#[97]⟩ : ByteArray), (⟨#[111, 110]⟩ : ByteArray)⟩
theorem m0 : presL memsM = [(⟨#[103, 117, 115]⟩ : ByteArray)] := by kernel_rfl
theorem m1 : memsE homeM memsM = 0 := by kernel_rfl
theorem m2 : canE homeM memsM (⟨#[103, 117, 115]⟩ : ByteArray) 500 (wrQ lampM) = 0 := by kernel_rfl
theorem m3 : canE homeM memsM (⟨#[103, 117, 115]⟩ : ByteArray) 500 (wrQ lockM) = 16 := by kernel_rfl
theorem m4 : canE homeM memsM (⟨#[103, 117, 115]⟩ : ByteArray) 500 (wrQ otherM) = 16 := by kernel_rfl
theorem m5 : canE homeM memsM (⟨#[103, 117, 115]⟩ : ByteArray) 600 (wrQ lampM) = 17 := by kernel_rfl
theorem m6 : canE homeM memsM (⟨#[103, 117, 115]⟩ : ByteArray) (-1) (wrQ lampM) = 17 := by kernel_rfl
theorem m7 : rightsL homeM memsM (⟨#[103, 117, 115]⟩ : ByteArray) 500 = [lampM] := by kernel_rfl
set_option maxHeartbeats 1000000 in
theorem ac_law47_awake : AC Tryz.prog 11 [] [] (.pv (vbool true)) [] := by
  have c0 := ac_member_Present memsM good_M.1
  have c1 := ac_member_Check homeM memsM smallH_M good_M
  have c2 := ac_law47_guest homeM memsM 500 lampM smallH_M good_M
  have c3 := ac_law47_guest homeM memsM 500 lockM smallH_M good_M
  have c4 := ac_law47_guest homeM memsM 500 otherM smallH_M good_M
  have c5 := ac_law47_guest homeM memsM 600 lampM smallH_M good_M
  have c6 := ac_law47_guest homeM memsM (-1) lampM smallH_M good_M
  have c7 := ac_member_Rights homeM memsM (⟨#[103, 117, 115]⟩ : ByteArray) 500 smallH_M good_M
  have c8 := ac_r22_SameKeys [lampM] [lampM] (show 1 ≤ 4194304 by decide)
  rw [m0] at c0
  rw [m1] at c1
  rw [m2] at c2
  rw [m3] at c3
  rw [m4] at c4
  rw [m5] at c5
  rw [m6] at c6
  rw [m7] at c7
  rw [decide_eq_true rfl] at c8
  refine AC.of_awp_ice (T := T) T_ok hm Tryz.call11 Tryz.func11 rfl rfl rfl ?_
  conv => whnf
  repeat (any_goals (first
    | (refine ⟨fun (h : (_ : Bool) = true) => ?_, fun (h : (_ : Bool) = false) => ?_⟩ <;> (try simp only [decide_eq_true_eq, decide_eq_false_iff_not, Bool.not_eq_true', Bool.not_eq_false', Int.toNat_natCast, beq_iff_eq, decide_eq_decide, beq_eq_false_iff_ne, ne_eq, reduceCtorEq] at h) <;> (conv => whnf))
    | (refine .inl ⟨_, AC.sub1 (c0) (by repeat' (first | exact PSub.rfl | exact PSub.nil_ro _ _ | exact PSub.lit_sb rfl | exact trivial | exact all_lt_zero | refine PSub.agg ?_ | refine PSub.ro rfl ?_ | refine all_lt_succ ?_ ?_ | refine And.intro ?_ ?_)), ?_⟩; conv => whnf)
    | (refine .inl ⟨_, AC.sub2 (c1) (by repeat' (first | exact PSub.rfl | exact PSub.nil_ro _ _ | exact PSub.lit_sb rfl | exact trivial | exact all_lt_zero | refine PSub.agg ?_ | refine PSub.ro rfl ?_ | refine all_lt_succ ?_ ?_ | refine And.intro ?_ ?_)) (by repeat' (first | exact PSub.rfl | exact PSub.nil_ro _ _ | exact PSub.lit_sb rfl | exact trivial | exact all_lt_zero | refine PSub.agg ?_ | refine PSub.ro rfl ?_ | refine all_lt_succ ?_ ?_ | refine And.intro ?_ ?_)), ?_⟩; conv => whnf)
    | (refine And.intro (by (try simp only [Int.toNat_natCast]); omega) ?_; conv => whnf)
    | (refine And.intro (show (_ : Bool) = true from by kernel_rfl) ?_; conv => whnf)
    | (refine .inl ⟨wrap64 (by omega), ?_⟩; conv => whnf)))
  all_goals try (exact absurd trivial h)
  all_goals try (exact absurd rfl h)
  all_goals try (exfalso; exact h (by decide))
  refine .inl ⟨_, AC.sub4 (c2) (by repeat' (first | exact PSub.rfl | exact PSub.nil_ro _ _ | exact PSub.lit_sb rfl | exact trivial | exact all_lt_zero | refine PSub.agg ?_ | refine PSub.ro rfl ?_ | refine all_lt_succ ?_ ?_ | refine And.intro ?_ ?_)) (by repeat' (first | exact PSub.rfl | exact PSub.nil_ro _ _ | exact PSub.lit_sb rfl | exact trivial | exact all_lt_zero | refine PSub.agg ?_ | refine PSub.ro rfl ?_ | refine all_lt_succ ?_ ?_ | refine And.intro ?_ ?_)) (by repeat' (first | exact PSub.rfl | exact PSub.nil_ro _ _ | exact PSub.lit_sb rfl | exact trivial | exact all_lt_zero | refine PSub.agg ?_ | refine PSub.ro rfl ?_ | refine all_lt_succ ?_ ?_ | refine And.intro ?_ ?_)) (by repeat' (first | exact PSub.rfl | exact PSub.nil_ro _ _ | exact PSub.lit_sb rfl | exact trivial | exact all_lt_zero | refine PSub.agg ?_ | refine PSub.ro rfl ?_ | refine all_lt_succ ?_ ?_ | refine And.intro ?_ ?_)), ?_⟩
  conv => whnf
  repeat (any_goals (first
    | (refine ⟨fun (h : (_ : Bool) = true) => ?_, fun (h : (_ : Bool) = false) => ?_⟩ <;> (try simp only [decide_eq_true_eq, decide_eq_false_iff_not, Bool.not_eq_true', Bool.not_eq_false', Int.toNat_natCast, beq_iff_eq, decide_eq_decide, beq_eq_false_iff_ne, ne_eq, reduceCtorEq] at h) <;> (conv => whnf))
    | (refine And.intro (by (try simp only [Int.toNat_natCast]); omega) ?_; conv => whnf)
    | (refine And.intro (show (_ : Bool) = true from by kernel_rfl) ?_; conv => whnf)
    | (refine .inl ⟨wrap64 (by omega), ?_⟩; conv => whnf)))
  all_goals try (exact absurd trivial h)
  all_goals try (exact absurd rfl h)
  all_goals try (exfalso; exact h (by decide))
  refine .inl ⟨_, AC.sub4 (c3) (by repeat' (first | exact PSub.rfl | exact PSub.nil_ro _ _ | exact PSub.lit_sb rfl | exact trivial | exact all_lt_zero | refine PSub.agg ?_ | refine PSub.ro rfl ?_ | refine all_lt_succ ?_ ?_ | refine And.intro ?_ ?_)) (by repeat' (first | exact PSub.rfl | exact PSub.nil_ro _ _ | exact PSub.lit_sb rfl | exact trivial | exact all_lt_zero | refine PSub.agg ?_ | refine PSub.ro rfl ?_ | refine all_lt_succ ?_ ?_ | refine And.intro ?_ ?_)) (by repeat' (first | exact PSub.rfl | exact PSub.nil_ro _ _ | exact PSub.lit_sb rfl | exact trivial | exact all_lt_zero | refine PSub.agg ?_ | refine PSub.ro rfl ?_ | refine all_lt_succ ?_ ?_ | refine And.intro ?_ ?_)) (by repeat' (first | exact PSub.rfl | exact PSub.nil_ro _ _ | exact PSub.lit_sb rfl | exact trivial | exact all_lt_zero | refine PSub.agg ?_ | refine PSub.ro rfl ?_ | refine all_lt_succ ?_ ?_ | refine And.intro ?_ ?_)), ?_⟩
  conv => whnf
  repeat (any_goals (first
    | (refine ⟨fun (h : (_ : Bool) = true) => ?_, fun (h : (_ : Bool) = false) => ?_⟩ <;> (try simp only [decide_eq_true_eq, decide_eq_false_iff_not, Bool.not_eq_true', Bool.not_eq_false', Int.toNat_natCast, beq_iff_eq, decide_eq_decide, beq_eq_false_iff_ne, ne_eq, reduceCtorEq] at h) <;> (conv => whnf))
    | (refine And.intro (by (try simp only [Int.toNat_natCast]); omega) ?_; conv => whnf)
    | (refine And.intro (show (_ : Bool) = true from by kernel_rfl) ?_; conv => whnf)
    | (refine .inl ⟨wrap64 (by omega), ?_⟩; conv => whnf)))
  all_goals try (exact absurd trivial h)
  all_goals try (exact absurd rfl h)
  all_goals try (exfalso; exact h (by decide))
  refine .inl ⟨_, AC.sub4 (c4) (by repeat' (first | exact PSub.rfl | exact PSub.nil_ro _ _ | exact PSub.lit_sb rfl | exact trivial | exact all_lt_zero | refine PSub.agg ?_ | refine PSub.ro rfl ?_ | refine all_lt_succ ?_ ?_ | refine And.intro ?_ ?_)) (by repeat' (first | exact PSub.rfl | exact PSub.nil_ro _ _ | exact PSub.lit_sb rfl | exact trivial | exact all_lt_zero | refine PSub.agg ?_ | refine PSub.ro rfl ?_ | refine all_lt_succ ?_ ?_ | refine And.intro ?_ ?_)) (by repeat' (first | exact PSub.rfl | exact PSub.nil_ro _ _ | exact PSub.lit_sb rfl | exact trivial | exact all_lt_zero | refine PSub.agg ?_ | refine PSub.ro rfl ?_ | refine all_lt_succ ?_ ?_ | refine And.intro ?_ ?_)) (by repeat' (first | exact PSub.rfl | exact PSub.nil_ro _ _ | exact PSub.lit_sb rfl | exact trivial | exact all_lt_zero | refine PSub.agg ?_ | refine PSub.ro rfl ?_ | refine all_lt_succ ?_ ?_ | refine And.intro ?_ ?_)), ?_⟩
  conv => whnf
  repeat (any_goals (first
    | (refine ⟨fun (h : (_ : Bool) = true) => ?_, fun (h : (_ : Bool) = false) => ?_⟩ <;> (try simp only [decide_eq_true_eq, decide_eq_false_iff_not, Bool.not_eq_true', Bool.not_eq_false', Int.toNat_natCast, beq_iff_eq, decide_eq_decide, beq_eq_false_iff_ne, ne_eq, reduceCtorEq] at h) <;> (conv => whnf))
    | (refine And.intro (by (try simp only [Int.toNat_natCast]); omega) ?_; conv => whnf)
    | (refine And.intro (show (_ : Bool) = true from by kernel_rfl) ?_; conv => whnf)
    | (refine .inl ⟨wrap64 (by omega), ?_⟩; conv => whnf)))
  all_goals try (exact absurd trivial h)
  all_goals try (exact absurd rfl h)
  all_goals try (exfalso; exact h (by decide))
  refine .inl ⟨_, AC.sub4 (c5) (by repeat' (first | exact PSub.rfl | exact PSub.nil_ro _ _ | exact PSub.lit_sb rfl | exact trivial | exact all_lt_zero | refine PSub.agg ?_ | refine PSub.ro rfl ?_ | refine all_lt_succ ?_ ?_ | refine And.intro ?_ ?_)) (by repeat' (first | exact PSub.rfl | exact PSub.nil_ro _ _ | exact PSub.lit_sb rfl | exact trivial | exact all_lt_zero | refine PSub.agg ?_ | refine PSub.ro rfl ?_ | refine all_lt_succ ?_ ?_ | refine And.intro ?_ ?_)) (by repeat' (first | exact PSub.rfl | exact PSub.nil_ro _ _ | exact PSub.lit_sb rfl | exact trivial | exact all_lt_zero | refine PSub.agg ?_ | refine PSub.ro rfl ?_ | refine all_lt_succ ?_ ?_ | refine And.intro ?_ ?_)) (by repeat' (first | exact PSub.rfl | exact PSub.nil_ro _ _ | exact PSub.lit_sb rfl | exact trivial | exact all_lt_zero | refine PSub.agg ?_ | refine PSub.ro rfl ?_ | refine all_lt_succ ?_ ?_ | refine And.intro ?_ ?_)), ?_⟩
  conv => whnf
  repeat (any_goals (first
    | (refine ⟨fun (h : (_ : Bool) = true) => ?_, fun (h : (_ : Bool) = false) => ?_⟩ <;> (try simp only [decide_eq_true_eq, decide_eq_false_iff_not, Bool.not_eq_true', Bool.not_eq_false', Int.toNat_natCast, beq_iff_eq, decide_eq_decide, beq_eq_false_iff_ne, ne_eq, reduceCtorEq] at h) <;> (conv => whnf))
    | (refine And.intro (by (try simp only [Int.toNat_natCast]); omega) ?_; conv => whnf)
    | (refine And.intro (show (_ : Bool) = true from by kernel_rfl) ?_; conv => whnf)
    | (refine .inl ⟨wrap64 (by omega), ?_⟩; conv => whnf)))
  all_goals try (exact absurd trivial h)
  all_goals try (exact absurd rfl h)
  all_goals try (exfalso; exact h (by decide))
  refine .inl ⟨_, AC.sub4 (c6) (by repeat' (first | exact PSub.rfl | exact PSub.nil_ro _ _ | exact PSub.lit_sb rfl | exact trivial | exact all_lt_zero | refine PSub.agg ?_ | refine PSub.ro rfl ?_ | refine all_lt_succ ?_ ?_ | refine And.intro ?_ ?_)) (by repeat' (first | exact PSub.rfl | exact PSub.nil_ro _ _ | exact PSub.lit_sb rfl | exact trivial | exact all_lt_zero | refine PSub.agg ?_ | refine PSub.ro rfl ?_ | refine all_lt_succ ?_ ?_ | refine And.intro ?_ ?_)) (by repeat' (first | exact PSub.rfl | exact PSub.nil_ro _ _ | exact PSub.lit_sb rfl | exact trivial | exact all_lt_zero | refine PSub.agg ?_ | refine PSub.ro rfl ?_ | refine all_lt_succ ?_ ?_ | refine And.intro ?_ ?_)) (by repeat' (first | exact PSub.rfl | exact PSub.nil_ro _ _ | exact PSub.lit_sb rfl | exact trivial | exact all_lt_zero | refine PSub.agg ?_ | refine PSub.ro rfl ?_ | refine all_lt_succ ?_ ?_ | refine And.intro ?_ ?_)), ?_⟩
  conv => whnf
  repeat (any_goals (first
    | (refine ⟨fun (h : (_ : Bool) = true) => ?_, fun (h : (_ : Bool) = false) => ?_⟩ <;> (try simp only [decide_eq_true_eq, decide_eq_false_iff_not, Bool.not_eq_true', Bool.not_eq_false', Int.toNat_natCast, beq_iff_eq, decide_eq_decide, beq_eq_false_iff_ne, ne_eq, reduceCtorEq] at h) <;> (conv => whnf))
    | (refine And.intro (by (try simp only [Int.toNat_natCast]); omega) ?_; conv => whnf)
    | (refine And.intro (show (_ : Bool) = true from by kernel_rfl) ?_; conv => whnf)
    | (refine .inl ⟨wrap64 (by omega), ?_⟩; conv => whnf)))
  all_goals try (exact absurd trivial h)
  all_goals try (exact absurd rfl h)
  all_goals try (exfalso; exact h (by decide))
  refine .inl ⟨_, AC.sub4 (c7) (by repeat' (first | exact PSub.rfl | exact PSub.nil_ro _ _ | exact PSub.lit_sb rfl | exact trivial | exact all_lt_zero | refine PSub.agg ?_ | refine PSub.ro rfl ?_ | refine all_lt_succ ?_ ?_ | refine And.intro ?_ ?_)) (by repeat' (first | exact PSub.rfl | exact PSub.nil_ro _ _ | exact PSub.lit_sb rfl | exact trivial | exact all_lt_zero | refine PSub.agg ?_ | refine PSub.ro rfl ?_ | refine all_lt_succ ?_ ?_ | refine And.intro ?_ ?_)) (by repeat' (first | exact PSub.rfl | exact PSub.nil_ro _ _ | exact PSub.lit_sb rfl | exact trivial | exact all_lt_zero | refine PSub.agg ?_ | refine PSub.ro rfl ?_ | refine all_lt_succ ?_ ?_ | refine And.intro ?_ ?_)) (by repeat' (first | exact PSub.rfl | exact PSub.nil_ro _ _ | exact PSub.lit_sb rfl | exact trivial | exact all_lt_zero | refine PSub.agg ?_ | refine PSub.ro rfl ?_ | refine all_lt_succ ?_ ?_ | refine And.intro ?_ ?_)), ?_⟩
  conv => whnf
  repeat (any_goals (first
    | (refine ⟨fun (h : (_ : Bool) = true) => ?_, fun (h : (_ : Bool) = false) => ?_⟩ <;> (try simp only [decide_eq_true_eq, decide_eq_false_iff_not, Bool.not_eq_true', Bool.not_eq_false', Int.toNat_natCast, beq_iff_eq, decide_eq_decide, beq_eq_false_iff_ne, ne_eq, reduceCtorEq] at h) <;> (conv => whnf))
    | (refine And.intro (by (try simp only [Int.toNat_natCast]); omega) ?_; conv => whnf)
    | (refine And.intro (show (_ : Bool) = true from by kernel_rfl) ?_; conv => whnf)
    | (refine .inl ⟨wrap64 (by omega), ?_⟩; conv => whnf)))
  all_goals try (exact absurd trivial h)
  all_goals try (exact absurd rfl h)
  all_goals try (exfalso; exact h (by decide))
  refine .inl ⟨_, AC.sub2 (c8) (by repeat' (first | exact PSub.rfl | exact PSub.nil_ro _ _ | exact PSub.lit_sb rfl | exact trivial | exact all_lt_zero | refine PSub.agg ?_ | refine PSub.ro rfl ?_ | refine all_lt_succ ?_ ?_ | refine And.intro ?_ ?_)) (by repeat' (first | exact PSub.rfl | exact PSub.nil_ro _ _ | exact PSub.lit_sb rfl | exact trivial | exact all_lt_zero | refine PSub.agg ?_ | refine PSub.ro rfl ?_ | refine all_lt_succ ?_ ?_ | refine And.intro ?_ ?_)), ?_⟩
  conv => whnf
  repeat (any_goals (first
    | (refine ⟨fun (h : (_ : Bool) = true) => ?_, fun (h : (_ : Bool) = false) => ?_⟩ <;> (try simp only [decide_eq_true_eq, decide_eq_false_iff_not, Bool.not_eq_true', Bool.not_eq_false', Int.toNat_natCast, beq_iff_eq, decide_eq_decide, beq_eq_false_iff_ne, ne_eq, reduceCtorEq] at h) <;> (conv => whnf))
    | (refine And.intro (by (try simp only [Int.toNat_natCast]); omega) ?_; conv => whnf)
    | (refine And.intro (show (_ : Bool) = true from by kernel_rfl) ?_; conv => whnf)
    | (refine .inl ⟨wrap64 (by omega), ?_⟩; conv => whnf)))
  all_goals try (exact absurd trivial h)
  all_goals try (exact absurd rfl h)
  all_goals try (exfalso; exact h (by decide))
  all_goals first
    | exact PSub.sb rfl
    | exact PSub.lit_sb rfl
    | trace_state
end Go.Abs
