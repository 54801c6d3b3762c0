/- Regions whose order is open: one walk in the order of the text serves for every order, where what two operations touch in common is ordered. -/
import Derived.Test.YtdnppfhapkdlfaaDoorX01

set_option linter.unusedVariables false
set_option linter.unusedSimpArgs false
set_option linter.unusedSectionVars false

namespace Go.Abs
open Go.RowKit
variable [Globals]

/-- what op number i comes behind, as the digits of a number -/
def maskOf (acc : List Nat) : List Edge → Nat
  | [] => 0
  | e :: es => match Region.binds .any e with
    | true => (2 ^ e.on ||| acc.getD e.on 0) ||| maskOf acc es
    | false => maskOf acc es

def befL : List Oper → List Nat → List Nat
  | [], acc => acc
  | o :: os, acc => befL os (acc ++ [maskOf acc o.after.toList])

def opTmps (ops : List Oper) (o : Oper) : List Nat :=
  (o.op.operands.toList.filterMap fun | .tmp t => some t | _ => none) ++
  (match o.guard with
   | some (g, _) => ((ops[g]?).bind (·.dst)).toList
   | none => [])

def backEdges : Nat → List Oper → Bool
  | _, [] => true
  | i, o :: os => (o.after.toList.all fun e => !Region.binds .any e || Nat.blt e.on i) && backEdges (i + 1) os

/-- do two operations touch a slot that one of them writes? -/
def tmpConf (ops : List Oper) (x y : Oper) : Bool :=
  (match x.dst with
   | some d => (opTmps ops y).contains d || (match y.dst with | some e => Nat.beq d e | none => false)
   | none => false) ||
  (match y.dst with
   | some d => (opTmps ops x).contains d
   | none => false)

/-- each pair (i, j), i < j, that conflicts is ordered -/
def pairsOk {α : Type} (conf : α → α → Bool) (bef : List Nat) : Nat → List α → List α → Bool
  | _, _, [] => true
  | j, pre, y :: ys => ((pre.zipIdx).all fun x => !conf x.1 y || (bef.getD j 0).testBit x.2) && pairsOk conf bef (j + 1) (pre ++ [y]) ys

def drawOk (ops : List Oper) : Bool := backEdges 0 ops && pairsOk (tmpConf ops) (befL ops []) 0 [] ops

/-- the objects that an operation looks at, and those that it changes -/
structure Touch where
  looks : List Nat
  writes : List Nat

def objConf (x y : Touch) : Bool := x.writes.any (fun l => y.looks.contains l || y.writes.contains l) || y.writes.any (fun l => x.looks.contains l)

def logOk (ops : List Oper) (log : List Touch) : Bool := pairsOk objConf (befL ops []) 0 [] log

theorem pairsOk_spec {α : Type} {conf : α → α → Bool} {bef : List Nat} : ∀ {ys : List α} {j : Nat} {pre : List α}, pre.length = j → pairsOk conf bef j pre ys = true →
    ∀ (i k : Nat) (x y : α), i < k → (pre ++ ys)[i]? = some x → (pre ++ ys)[k]? = some y → j ≤ k → conf x y = true → (bef.getD k 0).testBit i = true
  | [], j, pre, hj, _, i, k, x, y, hik, hx, hy, hk, _ => by
    have := (List.getElem?_eq_some_iff.1 hy).1
    simp at this; omega
  | z :: ys, j, pre, hj, h, i, k, x, y, hik, hx, hy, hk, hc => by
    simp only [pairsOk, Bool.and_eq_true] at h
    by_cases e : k = j
    · subst e
      have hz : y = z := by
        rw [List.getElem?_append_right (by omega)] at hy
        simp [hj] at hy; exact hy.symm
      subst hz
      have hx' : pre[i]? = some x := by rwa [List.getElem?_append_left (by omega)] at hx
      have := List.all_eq_true.1 h.1 (x, i) (by rw [List.mem_zipIdx_iff_getElem?]; exact hx')
      simpa [hc] using this
    · have := pairsOk_spec (pre := pre ++ [z]) (ys := ys) (j := j + 1) (by simp [hj]) h.2 i k x y hik (by simpa using hx) (by simpa using hy) (by omega) hc
      exact this

theorem maskOf_bit {acc : List Nat} : ∀ {es : List Edge} {k : Nat}, (maskOf acc es).testBit k = true → ∃ e ∈ es, Region.binds .any e = true ∧ (e.on = k ∨ (acc.getD e.on 0).testBit k = true)
  | [], k, h => by simp [maskOf] at h
  | e :: es, k, h => by
    unfold maskOf at h
    split at h
    · rename_i hb
      simp only [Nat.testBit_or, Bool.or_eq_true, Nat.testBit_two_pow] at h
      rcases h with (h | h) | h
      · exact ⟨e, by simp, hb, .inl (by simpa using h)⟩
      · exact ⟨e, by simp, hb, .inr h⟩
      · obtain ⟨e', h1, h2, h3⟩ := maskOf_bit h
        exact ⟨e', by simp [h1], h2, h3⟩
    · obtain ⟨e', h1, h2, h3⟩ := maskOf_bit h
      exact ⟨e', by simp [h1], h2, h3⟩

theorem befL_length : ∀ {os : List Oper} {acc : List Nat}, (befL os acc).length = acc.length + os.length
  | [], acc => by simp [befL]
  | o :: os, acc => by rw [befL, befL_length]; simp; omega

theorem befL_get : ∀ {os : List Oper} {acc : List Nat} {i : Nat}, i < acc.length → (befL os acc).getD i 0 = acc.getD i 0
  | [], acc, i, h => rfl
  | o :: os, acc, i, h => by
    rw [befL, befL_get (by simp; omega)]
    simp only [List.getD_eq_getElem?_getD]
    rw [List.getElem?_append_left h]

/-- what lies behind op number i lies in every set that holds its edges and is closed -/
theorem befL_closed {ops : List Oper} {D : Nat → Prop} (hD : ∀ j o, D j → ops[j]? = some o → ∀ e ∈ o.after.toList, Region.binds .any e = true → D e.on) :
    ∀ (os : List Oper) (pre : List Oper) (acc : List Nat), ops = pre ++ os → acc.length = pre.length → (∀ j, j < pre.length → (∀ o, ops[j]? = some o → ∀ e ∈ o.after.toList, Region.binds .any e = true → D e.on) → ∀ k, (acc.getD j 0).testBit k = true → D k) →
      ∀ i o, ops[i]? = some o → (∀ e ∈ o.after.toList, Region.binds .any e = true → D e.on) → ∀ k, ((befL os acc).getD i 0).testBit k = true → D k
  | [], pre, acc, he, hl, hacc, i, o, ho, hi, k, hk => by
    have hlt := (List.getElem?_eq_some_iff.1 ho).1
    rw [he] at hlt
    exact hacc i (by simpa using hlt) (fun o' ho' => by rw [ho] at ho'; cases ho'; exact hi) k hk
  | x :: os, pre, acc, he, hl, hacc, i, o, ho, hi, k, hk => by
    refine befL_closed hD os (pre ++ [x]) (acc ++ [maskOf acc x.after.toList]) (by rw [he]; simp) (by simp [hl]) (fun j hj hjo k hk => ?_) i o ho hi k hk
    by_cases e : j = pre.length
    · subst e
      have hx : ops[pre.length]? = some x := by rw [he]; simp
      rw [List.getD_eq_getElem?_getD, List.getElem?_append_right (by omega)] at hk
      simp [hl] at hk
      obtain ⟨ed, h1, h2, h3⟩ := maskOf_bit hk
      have hon := hjo x hx ed h1 h2
      rcases h3 with h3 | h3
      · exact h3 ▸ hon
      · rcases Nat.lt_or_ge ed.on pre.length with hlt | hge
        · exact hacc ed.on hlt (fun o' ho' => hD ed.on o' hon ho') k h3
        · simp [List.getD_eq_getElem?_getD, List.getElem?_eq_none (show acc.length ≤ ed.on by omega)] at h3
    · have hj' : j < pre.length := by simp at hj; omega
      rw [List.getD_eq_getElem?_getD, List.getElem?_append_left (by omega), ← List.getD_eq_getElem?_getD] at hk
      exact hacc j hj' hjo k hk

/-! What a slot or an object is after those operations below n that are chosen. -/

def vT (dst : Nat → Option Nat) (V : Nat → AV) (t : Nat) (x0 : AV) (sel : Nat → Bool) : Nat → AV
  | 0 => x0
  | n + 1 => if sel n = true ∧ dst n = some t then V n else vT dst V t x0 sel n

def vO (U : Nat → Upd) (l : Nat) (x0 : Option AObj) (sel : Nat → Bool) : Nat → Option AObj
  | 0 => x0
  | n + 1 => if sel n = true ∧ getO (U n) l ≠ none then getO (U n) l else vO U l x0 sel n

theorem vT_eq {dst : Nat → Option Nat} {V : Nat → AV} {t : Nat} {x0 : AV} {sel sel' : Nat → Bool} {i : Nat} : ∀ {n : Nat}, i ≤ n → (∀ j, j < n → dst j = some t → (sel j = true ↔ (j < i ∧ sel' j = true))) → vT dst V t x0 sel n = vT dst V t x0 sel' i
  | 0, hi, _ => by
    have : i = 0 := by omega
    subst this; rfl
  | n + 1, hi, h => by
    by_cases e : i = n + 1
    · subst e
      simp only [vT]
      by_cases hd : dst n = some t
      · have := h n (by omega) hd
        by_cases hs : sel n = true
        · rw [if_pos ⟨hs, hd⟩, if_pos ⟨(this.1 hs).2, hd⟩]
        · rw [if_neg (fun hh => hs hh.1), if_neg (fun hh => hs (this.2 ⟨by omega, hh.1⟩))]
          exact vT_eq (Nat.le_refl n) (fun j hj hdj => by have := h j (by omega) hdj; constructor
                                                          · intro hh; exact ⟨hj, (this.1 hh).2⟩
                                                          · intro hh; exact this.2 ⟨by omega, hh.2⟩)
      · rw [if_neg (fun hh => hd hh.2), if_neg (fun hh => hd hh.2)]
        exact vT_eq (Nat.le_refl n) (fun j hj hdj => by have := h j (by omega) hdj; constructor
                                                        · intro hh; exact ⟨hj, (this.1 hh).2⟩
                                                        · intro hh; exact this.2 ⟨by omega, hh.2⟩)
    · simp only [vT]
      rw [if_neg]
      · exact vT_eq (by omega) (fun j hj hdj => h j (by omega) hdj)
      · rintro ⟨hs, hd⟩
        have := (h n (by omega) hd).1 hs
        omega

theorem vO_eq {U : Nat → Upd} {l : Nat} {x0 : Option AObj} {sel sel' : Nat → Bool} {i : Nat} : ∀ {n : Nat}, i ≤ n → (∀ j, j < n → getO (U j) l ≠ none → (sel j = true ↔ (j < i ∧ sel' j = true))) → vO U l x0 sel n = vO U l x0 sel' i
  | 0, hi, _ => by
    have : i = 0 := by omega
    subst this; rfl
  | n + 1, hi, h => by
    by_cases e : i = n + 1
    · subst e
      simp only [vO]
      by_cases hd : getO (U n) l ≠ none
      · have := h n (by omega) hd
        by_cases hs : sel n = true
        · rw [if_pos ⟨hs, hd⟩, if_pos ⟨(this.1 hs).2, hd⟩]
        · rw [if_neg (fun hh => hs hh.1), if_neg (fun hh => hs (this.2 ⟨by omega, hh.1⟩))]
          exact vO_eq (Nat.le_refl n) (fun j hj hdj => by have := h j (by omega) hdj; constructor
                                                          · intro hh; exact ⟨hj, (this.1 hh).2⟩
                                                          · intro hh; exact this.2 ⟨by omega, hh.2⟩)
      · rw [if_neg (fun hh => hd hh.2), if_neg (fun hh => hd hh.2)]
        exact vO_eq (Nat.le_refl n) (fun j hj hdj => by have := h j (by omega) hdj; constructor
                                                        · intro hh; exact ⟨hj, (this.1 hh).2⟩
                                                        · intro hh; exact this.2 ⟨by omega, hh.2⟩)
    · simp only [vO]
      rw [if_neg]
      · exact vO_eq (by omega) (fun j hj hdj => h j (by omega) hdj)
      · rintro ⟨hs, hd⟩
        have := (h n (by omega) hd).1 hs
        omega

/-- one more operation, behind which none that writes the same has been chosen -/
theorem vT_add {dst : Nat → Option Nat} {V : Nat → AV} {t : Nat} {x0 : AV} {sel sel' : Nat → Bool} {i : Nat} (hsel : ∀ j, sel' j = (sel j || j == i)) (hi : sel i = false) :
    ∀ {n : Nat}, (∀ j, j < n → i < j → dst i = some t → dst j = some t → sel j = false) → vT dst V t x0 sel' n = if i < n ∧ dst i = some t then V i else vT dst V t x0 sel n
  | 0, _ => by simp [vT]
  | n + 1, h => by
    have ih := vT_add (V := V) (x0 := x0) hsel hi (n := n) (fun j hj => h j (by omega))
    simp only [vT, hsel]
    by_cases e : n = i
    · subst e
      by_cases hd : dst n = some t
      · simp [hd]
      · simp [hd, ih]
    · have e' : (n == i) = false := by simpa using e
      rw [e', Bool.or_false]
      by_cases hs : sel n = true ∧ dst n = some t
      · rw [if_pos hs]
        by_cases hlt : i < n + 1 ∧ dst i = some t
        · have := h n (by omega) (by omega) hlt.2 hs.2
          rw [this] at hs; simp at hs
        · rw [if_neg hlt, if_pos hs]
      · rw [if_neg hs, ih]
        by_cases hlt : i < n ∧ dst i = some t
        · rw [if_pos hlt, if_pos ⟨by omega, hlt.2⟩]
        · rw [if_neg hlt, if_neg (fun hh => hlt ⟨by omega, hh.2⟩), if_neg hs]

theorem vO_add {U : Nat → Upd} {l : Nat} {x0 : Option AObj} {sel sel' : Nat → Bool} {i : Nat} (hsel : ∀ j, sel' j = (sel j || j == i)) (hi : sel i = false) :
    ∀ {n : Nat}, (∀ j, j < n → i < j → getO (U i) l ≠ none → getO (U j) l ≠ none → sel j = false) → vO U l x0 sel' n = if i < n ∧ getO (U i) l ≠ none then getO (U i) l else vO U l x0 sel n
  | 0, _ => by simp [vO]
  | n + 1, h => by
    have ih := vO_add (x0 := x0) hsel hi (n := n) (fun j hj => h j (by omega))
    simp only [vO, hsel]
    by_cases e : n = i
    · subst e
      by_cases hd : getO (U n) l ≠ none
      · rw [if_pos ⟨by simp, hd⟩, if_pos ⟨by omega, hd⟩]
      · rw [if_neg (fun hh => hd hh.2), if_neg (fun hh => hd hh.2), if_neg (fun hh => hd hh.2), ih, if_neg (fun hh => hd hh.2)]
    · have e' : (n == i) = false := by simpa using e
      rw [e', Bool.or_false]
      by_cases hs : sel n = true ∧ getO (U n) l ≠ none
      · rw [if_pos hs]
        by_cases hlt : i < n + 1 ∧ getO (U i) l ≠ none
        · have := h n (by omega) (by omega) hlt.2 hs.2
          rw [this] at hs; simp at hs
        · rw [if_neg hlt, if_pos hs]
      · rw [if_neg hs, ih]
        by_cases hlt : i < n ∧ getO (U i) l ≠ none
        · rw [if_pos hlt, if_pos ⟨by omega, hlt.2⟩]
        · rw [if_neg hlt, if_neg (fun hh => hlt ⟨by omega, hh.2⟩), if_neg hs]

theorem vT_shift {dst : Nat → Option Nat} {V : Nat → AV} {t : Nat} {x0 : AV} : ∀ {n : Nat}, vT dst V t x0 (fun _ => true) (n + 1) = vT (fun j => dst (j + 1)) (fun j => V (j + 1)) t (if dst 0 = some t then V 0 else x0) (fun _ => true) n
  | 0 => by simp [vT]
  | n + 1 => by rw [vT, vT_shift (n := n)]; rfl
theorem vO_shift {U : Nat → Upd} {l : Nat} {x0 : Option AObj} : ∀ {n : Nat}, vO U l x0 (fun _ => true) (n + 1) = vO (fun j => U (j + 1)) l (if getO (U 0) l ≠ none then getO (U 0) l else x0) (fun _ => true) n
  | 0 => by simp [vO]
  | n + 1 => by rw [vO, vO_shift (n := n)]; rfl

/-- y says no more than x. -/
structure AVs (x y : AV) : Prop where
  to : ∀ (P : Program) (w : World) (St M : Nat → Prop) (σ : Sig) (v : Value), AR P w St M σ x v → AR P w St M σ y v
  rf : ∀ l, l ∈ refs y → l ∈ refs x
theorem AVs.rfl {x : AV} : AVs x x := ⟨fun _ _ _ _ _ _ h => h, fun _ h => h⟩

def looksL (tm : List (Nat × AV)) : List Operand → List Nat
  | [] => []
  | x :: xs => refs (evO tm x) ++ looksL tm xs
def looksOf (tm : List (Nat × AV)) (op : Op) : List Nat := looksL tm op.operands.toList
def keysOf (u : Upd) : List Nat := u.map (·.1)

def opSD (P : Program) (T : Tab) (nt : Nat) (o : Oper) (s : AState) (K : AState → Touch → Prop) : Prop :=
  match s with
  | ⟨tm, ob⟩ => match o with
    | ⟨none, op, ty, pos, after, guard⟩ => aopc P T ⟨none, op, ty, pos, after, guard⟩ 0 (evO tm) (getO ob) fun v u => nextS nt none ⟨tm, ob⟩ v u fun s' => K s' ⟨looksOf tm op, keysOf u⟩
    | ⟨some d, op, ty, pos, after, guard⟩ => aopc P T ⟨some d, op, ty, pos, after, guard⟩ d (evO tm) (getO ob) fun v u => nextS nt (some d) ⟨tm, ob⟩ v u fun s' => K s' ⟨looksOf tm op, keysOf u⟩

def arunD (P : Program) (T : Tab) (nt : Nat) (ops : List Oper) : List Oper → AState → List Touch → (AState → List Touch → Prop) → Prop
  | [], s, log, K => K s log
  | o :: r, s, log, K => guardK ops o.guard s fun b s => match b with
    | true => opSD P T nt o s fun s to => arunD P T nt ops r s (log ++ [to]) K
    | false => nextS nt o.dst s skipV [] fun s => arunD P T nt ops r s (log ++ [⟨[], []⟩]) K

/-- What the walk in the order of the text has shown of one operation. -/
structure LexAt (P : Program) (nt : Nat) (ops : Array Oper) (o : Oper) (x : Nat → AV) (ob : Nat → Option AObj) (W : Bool) (V : AV) (U : Upd) (S : AState) (to : Touch) : Prop where
  tm : ∀ t, AVs (x t) (getT S.tm t)
  ob : ∀ l, getO S.ob l = ob l
  run : W = true → Step P o (evO S.tm) (getO S.ob) U V ∧ Fresh o (evO S.tm) (getO S.ob) U
  looks : W = true → to.looks = looksOf S.tm o.op ∧ to.writes = keysOf U
  skip : W = false → V = skipV ∧ U = []
  guard : ∀ tmps : Array Value, (∀ t, t ∈ opTmps ops.toList o → ∃ P w St M σ, AR P w St M σ (getT S.tm t) (tmps.getD t undef)) → Region.wanted o (yielded ops tmps) = W
  dst : ∀ t, o.dst = some t → t < nt

theorem guardK_split {ops : Array Oper} {o : Oper} {s : AState} {K : Bool → AState → Prop} (h : guardK ops.toList o.guard s K) :
    ∃ W S, K W S ∧ (∀ t, AVs (getT s.tm t) (getT S.tm t)) ∧ S.ob = s.ob ∧
      (∀ tmps : Array Value, (∀ t, t ∈ opTmps ops.toList o → ∃ P w St M σ, AR P w St M σ (getT S.tm t) (tmps.getD t undef)) → Region.wanted o (yielded ops tmps) = W) := by
  unfold guardK at h
  split at h
  · rename_i hg
    exact ⟨true, s, h, fun t => .rfl, rfl, fun tmps _ => by simp [Region.wanted, hg]⟩
  · rename_i j want hg
    split at h
    · rename_i oj hj
      split at h
      · rename_i t ht
        obtain ⟨tm, ob⟩ := s
        simp only at h
        have hj' : ops[j]? = some oj := by simpa using hj
        have hmem : t ∈ opTmps ops.toList o := by simp [opTmps, hg, hj', ht]
        have hy : ∀ (tmps : Array Value) b, tmps.getD t undef = .bool b → yielded ops tmps j = some b := by
          intro tmps b hb
          have hlt : t < tmps.size := by
            rcases Nat.lt_or_ge t tmps.size with h1 | h1
            · exact h1
            · simp [Array.getD, Nat.not_lt.2 h1, undef] at hb
          have : tmps[t]? = some (.bool b) := by
            simp [Array.getD, hlt] at hb
            simp [hlt, hb]
          simp [yielded, hj', ht, this]
        have lit : ∀ (b : Bool) (tm' : List (Nat × AV)) (W : Bool), getT tm' t = .pv (.val (.bool b)) → W = (b == want) → ∀ tmps : Array Value, (∀ t, t ∈ opTmps ops.toList o → ∃ P w St M σ, AR P w St M σ (getT tm' t) (tmps.getD t undef)) → Region.wanted o (yielded ops tmps) = W := by
          intro b tm' W hb hW tmps hA
          obtain ⟨P, w, St, M, σ, h1⟩ := hA t hmem
          rw [hb] at h1
          have h2 := hy tmps b (pr_val (arg_pv h1))
          simp only [Region.wanted, hg, h2, hW]
          cases b <;> cases want <;> rfl
        have sbv : ∀ (b : Bool), getT tm t = .pv (.sb b) → ∀ t', AVs (getT tm t') (getT ((t, .pv (.val (.bool b))) :: tm) t') := by
          intro b hb t'
          rw [getT_cons]
          by_cases e : t = t'
          · subst e
            rw [if_pos rfl, hb]
            exact ⟨fun P w St M σ v hv => by have := pr_sb (arg_pv hv); subst this; exact .pv _ _ (.val _), fun l hl => by simp [refs] at hl⟩
          · rw [if_neg e]; exact .rfl
        split at h
        · rename_i vs hb
          refine ⟨false, ⟨tm, ob⟩, h, fun t => .rfl, rfl, fun tmps hA => ?_⟩
          obtain ⟨P, w, St, M, σ, h1⟩ := hA t hmem
          rw [show getT tm t = .pv (.val (.tuple vs)) from hb] at h1
          have hv := pr_val (arg_pv h1)
          have h2 : yielded ops tmps j = none := by
            have h3 : tmps[t]? = none ∨ tmps[t]? = some (.tuple vs) := by
              rcases Nat.lt_or_ge t tmps.size with h4 | h4
              · right
                simp [Array.getD, h4] at hv
                simp [h4, hv]
              · left; simp [h4]
            rcases h3 with h3 | h3 <;> simp [yielded, hj', ht, h3]
          simp only [Region.wanted, hg, h2]
          cases want <;> rfl
        · rename_i b hb
          cases b <;> cases want <;> exact ⟨_, ⟨tm, ob⟩, h, fun t => .rfl, rfl, lit _ tm _ hb rfl⟩
        · rename_i b hb
          cases b with
          | true =>
            have := h.1 rfl
            cases want <;> exact ⟨_, _, this, sbv true hb, rfl, lit true _ _ (by rw [getT_cons, if_pos rfl]) rfl⟩
          | false =>
            have := h.2 rfl
            cases want <;> exact ⟨_, _, this, sbv false hb, rfl, lit false _ _ (by rw [getT_cons, if_pos rfl]) rfl⟩
        · exact h.elim
      · exact h.elim
    · exact h.elim

theorem nextS_split {nt : Nat} {d : Option Nat} {s : AState} {v : AV} {u : Upd} {K : AState → Prop} (h : nextS nt d s v u K) : K ⟨putT s.tm d v, u ++ s.ob⟩ ∧ ∀ t, d = some t → t < nt := by
  obtain ⟨tm, ob⟩ := s
  unfold nextS at h
  cases d with
  | none =>
    simp only at h
    refine ⟨?_, fun t e => by cases e⟩
    match u, h with
    | [], h => exact h
    | [x], h => exact h
    | x :: y :: r, h => exact h
  | some t =>
    obtain ⟨h1, h⟩ := chk_true h
    refine ⟨?_, fun t' e => by cases e; exact Nat.le_of_ble_eq_true h1⟩
    match u, h with
    | [], h => exact h
    | [x], h => exact h
    | x :: y :: r, h => exact h

theorem getT_putT {tm : List (Nat × AV)} {d : Option Nat} {v : AV} {t : Nat} : getT (putT tm d v) t = if d = some t then v else getT tm t := by
  cases d with
  | none => simp [putT]
  | some d => simp only [putT, getT_cons, Option.some.injEq]

/-- The walk in the order of the text, as functions of the operation's number. -/
theorem arunD_split {P : Program} {T : Tab} {nt : Nat} (hT : T.ok P) {ops : Array Oper} : ∀ (r : List Oper) (s : AState) (log : List Touch) (K : AState → List Touch → Prop) (x0 : Nat → AV) (o0 : Nat → Option AObj),
    (∀ t, AVs (x0 t) (getT s.tm t)) → (∀ l, getO s.ob l = o0 l) → arunD P T nt ops.toList r s log K →
    ∃ (W : Nat → Bool) (V : Nat → AV) (U : Nat → Upd) (S : Nat → AState) (to : Nat → Touch) (sN : AState), K sN (log ++ (List.range r.length).map to) ∧
      (∀ i o, r[i]? = some o → LexAt P nt ops o (fun t => vT (fun j => (r[j]?).bind (·.dst)) V t (x0 t) (fun _ => true) i) (fun l => vO U l (o0 l) (fun _ => true) i) (W i) (V i) (U i) (S i) (to i)) ∧
      (∀ t, AVs (vT (fun j => (r[j]?).bind (·.dst)) V t (x0 t) (fun _ => true) r.length) (getT sN.tm t)) ∧ (∀ l, getO sN.ob l = vO U l (o0 l) (fun _ => true) r.length)
  | [], s, log, K, x0, o0, hx, ho, h => ⟨fun _ => true, fun _ => .junk, fun _ => [], fun _ => s, fun _ => ⟨[], []⟩, s, by simpa using (show K s log from h), fun i o e => by simp at e, fun t => hx t, fun l => ho l⟩
  | o :: r, s, log, K, x0, o0, hx, ho, h => by
    unfold arunD at h
    obtain ⟨W0, S0, hK, hS, hSo, hg⟩ := guardK_split h
    have hx0 : ∀ t, AVs (x0 t) (getT S0.tm t) := fun t => ⟨fun P w St M σ v hv => (hS t).to P w St M σ v ((hx t).to P w St M σ v hv), fun l hl => (hx t).rf l ((hS t).rf l hl)⟩
    have ho0 : ∀ l, getO S0.ob l = o0 l := fun l => by rw [hSo]; exact ho l
    -- the first operation
    have first : ∃ (V0 : AV) (U0 : Upd) (to0 : Touch), arunD P T nt ops.toList r ⟨putT S0.tm o.dst V0, U0 ++ S0.ob⟩ (log ++ [to0]) K ∧ LexAt P nt ops o x0 o0 W0 V0 U0 S0 to0 := by
      cases W0 with
      | true =>
        simp only at hK
        have hK' : aopc P T o (idOf o.dst) (evO S0.tm) (getO S0.ob) fun v u => nextS nt o.dst S0 v u fun s' => arunD P T nt ops.toList r s' (log ++ [⟨looksOf S0.tm o.op, keysOf u⟩]) K := by
          obtain ⟨tm, ob⟩ := S0
          obtain ⟨d, op, ty, pos, after, guard⟩ := o
          cases d <;> exact hK
        obtain ⟨v, u, hn, hs, hf⟩ := aopc_sound hT hK'
        obtain ⟨h1, h2⟩ := nextS_split hn
        exact ⟨v, u, _, h1, hx0, ho0, fun _ => ⟨hs, hf⟩, fun _ => ⟨rfl, rfl⟩, fun e => (by cases e), hg, h2⟩
      | false =>
        simp only at hK
        obtain ⟨h1, h2⟩ := nextS_split hK
        exact ⟨skipV, [], _, h1, hx0, ho0, fun e => (by cases e), fun e => (by cases e), fun _ => ⟨rfl, rfl⟩, hg, h2⟩
    obtain ⟨V0, U0, to0, hrest, hlex⟩ := first
    obtain ⟨W, V, U, S, to, sN, hKN, hall, hfinT, hfinO⟩ := arunD_split hT r _ _ K (fun t => if o.dst = some t then V0 else x0 t) (fun l => if getO U0 l ≠ none then getO U0 l else o0 l)
      (fun t => by
        rw [getT_putT]
        by_cases e : o.dst = some t
        · rw [if_pos e, if_pos e]; exact .rfl
        · rw [if_neg e, if_neg e]; exact hx0 t)
      (fun l => by
        simp only [getO_append]
        cases e : getO U0 l with
        | some ob => simp
        | none => simp [ho0 l]) hrest
    refine ⟨fun | 0 => W0 | j + 1 => W j, fun | 0 => V0 | j + 1 => V j, fun | 0 => U0 | j + 1 => U j, fun | 0 => S0 | j + 1 => S j, fun | 0 => to0 | j + 1 => to j, sN, ?_, ?_, ?_, ?_⟩
    · have : (List.range (o :: r).length).map (fun | 0 => to0 | j + 1 => to j) = to0 :: (List.range r.length).map to := by
        rw [List.length_cons, List.range_succ_eq_map]; simp [Function.comp_def]
      rw [this]
      simpa using hKN
    · intro i o' e
      cases i with
      | zero => simp at e; subst e; simpa [vT, vO] using hlex
      | succ i =>
        have h1 := hall i o' (by simpa using e)
        have e1 : (fun t => vT (fun j => ((o :: r)[j]?).bind (·.dst)) (fun | 0 => V0 | j + 1 => V j) t (x0 t) (fun _ => true) (i + 1)) = fun t => vT (fun j => (r[j]?).bind (·.dst)) V t (if o.dst = some t then V0 else x0 t) (fun _ => true) i := by
          funext t; rw [vT_shift]; simp
        have e2 : (fun l => vO (fun | 0 => U0 | j + 1 => U j) l (o0 l) (fun _ => true) (i + 1)) = fun l => vO U l (if getO U0 l ≠ none then getO U0 l else o0 l) (fun _ => true) i := by
          funext l; rw [vO_shift]
        rw [e1, e2]
        exact h1
    · intro t
      rw [List.length_cons, vT_shift]
      simpa using hfinT t
    · intro l
      rw [List.length_cons, vO_shift]
      exact hfinO l

theorem keysOf_get {u : Upd} {l : Nat} (h : getO u l ≠ none) : l ∈ keysOf u := by
  induction u with
  | nil => exact absurd rfl h
  | cons x u ih =>
    obtain ⟨i, o⟩ := x
    rw [getO_cons] at h
    by_cases e : i = l
    · subst e; simp [keysOf]
    · rw [if_neg e] at h
      have := ih h
      simp only [keysOf, List.map_cons, List.mem_cons]
      exact .inr this

theorem looksL_mem {tm : List (Nat × AV)} {x : Operand} {l : Nat} (hl : l ∈ refs (evO tm x)) : ∀ {xs : List Operand}, x ∈ xs → l ∈ looksL tm xs
  | y :: xs, hx => by
    simp only [looksL, List.mem_append]
    rcases List.mem_cons.1 hx with e | hx
    · subst e; exact .inl hl
    · exact .inr (looksL_mem hl hx)

theorem looksOf_mem {tm : List (Nat × AV)} {op : Op} {x : Operand} {l : Nat} (hx : x ∈ op.operands.toList) (hl : l ∈ refs (evO tm x)) : l ∈ looksOf tm op := looksL_mem hl hx

theorem backEdges_spec {os : List Oper} : ∀ {i : Nat}, backEdges i os = true → ∀ (j : Nat) (o : Oper), os[j]? = some o → ∀ e ∈ o.after.toList, Region.binds .any e = true → e.on < i + j := by
  induction os with
  | nil => intro i _ j o e; simp at e
  | cons x os ih =>
    intro i h j o e ed hm hb
    simp only [backEdges, Bool.and_eq_true] at h
    cases j with
    | zero =>
      simp only [List.getElem?_cons_zero, Option.some.injEq] at e
      subst e
      have := List.all_eq_true.1 h.1 ed hm
      rw [hb] at this
      exact Nat.le_of_ble_eq_true this
    | succ j =>
      have := ih h.2 j o (by simpa using e) ed hm hb
      omega

/-- A frame whose slots are told anew. -/
theorem RelF.sub {P : Program} {E : FEnv} {tmf tmf' : Nat → AV} {obf obf' : Nat → Option AObj} {σ : Sig} {a : Act} {w : World} (h : RelF P E tmf obf σ a w) (ht : ∀ t, AVs (tmf t) (tmf' t)) (ho : ∀ l, obf' l = obf l) : RelF P E tmf' obf' σ a w := by
  have : obf' = obf := funext ho
  subst this
  exact { h with
    tm := fun t => (ht t).to P w E.St _ σ _ (h.tm t)
    wt := fun t l hl => h.wt t l ((ht t).rf l hl) }

theorem RelF.skip {P : Program} {E : FEnv} {tmf tmf' : Nat → AV} {obf obf' : Nat → Option AObj} {σ : Sig} {a : Act} {w : World} (h : RelF P E tmf obf σ a w) {d : Option Nat} (hd : ∀ t, d = some t → t < E.nt)
    (ht : ∀ t, (d = some t ∧ tmf' t = skipV) ∨ (d ≠ some t ∧ tmf' t = tmf t)) (ho : ∀ l, obf' l = obf l) : RelF P E tmf' obf' σ (a.put d undef) w := by
  have : obf' = obf := funext ho
  subst this
  refine ⟨?_, ?_, fun t => ?_, h.ob, h.nob, fun t l hl => ?_, h.wo, h.sep, h.own, h.ext⟩
  · cases d <;> simp [Act.put, h.sz]
  · cases d <;> simp [Act.put, h.df]
  · rcases ht t with ⟨ed, e⟩ | ⟨e, e'⟩
    · rw [e]; subst ed
      have hlt : t < a.tmps.size := by rw [h.sz]; exact hd t rfl
      simp [Act.put, Array.getD_eq_getD_getElem?, hlt]
      exact .pv _ _ (.val _)
    · rw [e']
      have := h.tm t
      cases d with
      | none => exact this
      | some d =>
        have hne : d ≠ t := fun hh => e (by rw [hh])
        simpa [Act.put, Array.getD_eq_getD_getElem?, Array.getElem?_setIfInBounds_ne hne] using this
  · rcases ht t with ⟨_, e⟩ | ⟨_, e⟩
    · rw [e] at hl; simp [refs] at hl
    · rw [e] at hl; exact h.wt t l hl

theorem countP_flip {i : Nat} {p q : Nat → Bool} (hp : p i = true) (hq : q i = false) (h : ∀ j, j ≠ i → p j = q j) : ∀ {n : Nat}, (List.range n).countP p = (List.range n).countP q + if i < n then 1 else 0
  | 0 => by simp
  | n + 1 => by
    have ih := countP_flip hp hq h (n := n)
    rw [List.range_succ, List.countP_append, List.countP_append, ih]
    by_cases e : n = i
    · subst e
      simp [hp, hq]
    · have hn := h n e
      by_cases hlt : i < n
      · rw [if_pos hlt, if_pos (by omega)]
        simp only [List.countP_cons, List.countP_nil, hn]; omega
      · rw [if_neg hlt, if_neg (by omega)]
        simp only [List.countP_cons, List.countP_nil, hn]; omega

/-- A region whose order is open. -/
theorem arunD_sound {P : Program} {T : Tab} {E : FEnv} (hE : E.ok) (hT : T.ok P) {ops : Array Oper} (hok : drawOk ops.toList = true) {K : AState → Prop} {Q : Exit → Act → World → Prop} (hQ : ∀ s σ a w, K s → Rel P E s σ a w → Q .normal a w)
    {s : AState} {σ : Sig} {a : Act} {w : World} (hR : Rel P E s σ a w) (h : arunD P T E.nt ops.toList ops.toList s [] (fun s log => logOk ops.toList log = true ∧ K s)) :
    wpAny P .any ops Q ops.size (Array.replicate ops.size false) a w := by
  obtain ⟨W, V, U, S, to, sN, ⟨hlog, hK⟩, hall, hfT, hfO⟩ := arunD_split hT ops.toList s [] _ (getT s.tm) (getO s.ob) (fun t => .rfl) (fun l => rfl) h
  simp only [List.nil_append] at hlog
  have hN : ops.toList.length = ops.size := by simp
  simp only [drawOk, Bool.and_eq_true] at hok
  obtain ⟨hback, hpair⟩ := hok
  let dst : Nat → Option Nat := fun j => (ops.toList[j]?).bind (·.dst)
  -- the order of what touches in common
  have htc : ∀ (i k : Nat) (oi ok : Oper), ops[i]? = some oi → ops[k]? = some ok → i < k → tmpConf ops.toList oi ok = true → ((befL ops.toList []).getD k 0).testBit i = true :=
    fun i k oi ok hi hk hik hc => pairsOk_spec (pre := []) rfl hpair i k oi ok hik (by simpa using hi) (by simpa using hk) (Nat.zero_le _) hc
  have hoc : ∀ i k, i < k → k < ops.size → objConf (to i) (to k) = true → ((befL ops.toList []).getD k 0).testBit i = true := by
    intro i k hik hk hc
    refine pairsOk_spec (pre := []) rfl hlog i k (to i) (to k) hik ?_ ?_ (Nat.zero_le _) hc
    · simp [show i < ops.size from by omega]
    · simp [hk]
  have hobj : ∀ i, i < ops.size → ∃ o, ops[i]? = some o := fun i hi => ⟨ops[i], by simp [hi]⟩
  have hlex : ∀ i o, ops[i]? = some o → LexAt P E.nt ops o (fun t => vT dst V t (getT s.tm t) (fun _ => true) i) (fun l => vO U l (getO s.ob l) (fun _ => true) i) (W i) (V i) (U i) (S i) (to i) := fun i o ho => hall i o (by simpa using ho)
  have hwr : ∀ i o l, ops[i]? = some o → getO (U i) l ≠ none → l ∈ (to i).writes := by
    intro i o l ho hl
    have hx := hlex i o ho
    cases hW : W i with
    | true => rw [(hx.looks hW).2]; exact keysOf_get hl
    | false => rw [(hx.skip hW).2] at hl; exact absurd rfl hl
  have hconfT : ∀ (i k : Nat) (oi ok : Oper) (t : Nat), ops[i]? = some oi → ops[k]? = some ok → i ≠ k → (t ∈ opTmps ops.toList oi ∨ oi.dst = some t) → ok.dst = some t → tmpConf ops.toList oi ok = true ∧ tmpConf ops.toList ok oi = true := by
    intro i k oi ok t _ _ _ ht hk
    constructor
    · unfold tmpConf
      rw [hk]
      rcases ht with ht | ht
      · simp [ht]
      · simp [ht]
    · unfold tmpConf
      rw [hk]
      rcases ht with ht | ht
      · simp [ht]
      · simp [ht]
  have hconfO : ∀ (x y : Touch) (l : Nat), (l ∈ x.looks ∨ l ∈ x.writes) → l ∈ y.writes → objConf x y = true ∧ objConf y x = true := by
    intro x y l hx hy
    constructor
    · unfold objConf
      rcases hx with hx | hx
      · simp only [Bool.or_eq_true, List.any_eq_true, List.contains_iff_mem]; exact .inr ⟨l, hy, hx⟩
      · simp only [Bool.or_eq_true, List.any_eq_true, List.contains_iff_mem]; exact .inl ⟨l, hx, .inr hy⟩
    · unfold objConf
      rcases hx with hx | hx
      · simp only [Bool.or_eq_true, List.any_eq_true, List.contains_iff_mem]; exact .inl ⟨l, hy, .inl hx⟩
      · simp only [Bool.or_eq_true, List.any_eq_true, List.contains_iff_mem]; exact .inl ⟨l, hy, .inr hx⟩
  have main : ∀ (fuel : Nat) (listed : Array Bool) (a : Act) (w : World), listed.size = ops.size → (List.range ops.size).countP (fun i => !listed.getD i true) = fuel →
      (∀ j o, listed.getD j false = true → ops[j]? = some o → ∀ e ∈ o.after.toList, Region.binds .any e = true → listed.getD e.on false = true) →
      (∃ σ, RelF P E (fun t => vT dst V t (getT s.tm t) (fun j => listed.getD j false) ops.size) (fun l => vO U l (getO s.ob l) (fun j => listed.getD j false) ops.size) σ a w) →
      wpAny P .any ops Q fuel listed a w := by
    intro fuel
    have hgd : ∀ (listed : Array Bool) (j : Nat), listed.size = ops.size → j < ops.size → listed.getD j true = listed.getD j false := by
      intro listed j hsz hj
      simp [Array.getD, hsz, hj]
    have done : ∀ (listed : Array Bool) (a : Act) (w : World), listed.size = ops.size → (∀ j, j < ops.size → listed.getD j false = true) →
        (∃ σ, RelF P E (fun t => vT dst V t (getT s.tm t) (fun j => listed.getD j false) ops.size) (fun l => vO U l (getO s.ob l) (fun j => listed.getD j false) ops.size) σ a w) → Q .normal a w := by
      intro listed a w hsz hl ⟨σ, hF⟩
      refine hQ sN σ a w hK (hF.sub (fun t => ?_) (fun l => ?_))
      · have e : vT dst V t (getT s.tm t) (fun j => listed.getD j false) ops.size = vT dst V t (getT s.tm t) (fun _ => true) ops.size := vT_eq (Nat.le_refl _) (fun j hj _ => by simp [hl j hj, hj])
        show AVs (vT dst V t (getT s.tm t) (fun j => listed.getD j false) ops.size) _
        rw [e]
        have := hfT t
        rw [hN] at this
        exact this
      · have e : vO U l (getO s.ob l) (fun j => listed.getD j false) ops.size = vO U l (getO s.ob l) (fun _ => true) ops.size := vO_eq (Nat.le_refl _) (fun j hj _ => by simp [hl j hj, hj])
        show getO sN.ob l = vO U l (getO s.ob l) (fun j => listed.getD j false) ops.size
        rw [e]
        have := hfO l
        rw [hN] at this
        exact this
    have allOf : ∀ (listed : Array Bool), listed.size = ops.size → Region.ready .any ops listed = [] → ∀ j, j < ops.size → listed.getD j false = true := by
      intro listed hsz hr
      intro j
      induction j using Nat.strongRecOn with
      | _ j ihj =>
        intro hj
        cases hb : listed.getD j false with
        | true => rfl
        | false =>
          obtain ⟨o, ho⟩ := hobj j hj
          have : j ∈ Region.ready .any ops listed := by
            rw [mem_ready]
            refine ⟨by rw [hgd listed j hsz hj]; exact hb, o, ho, fun e he hbd => ?_⟩
            have hlt := backEdges_spec hback j o (by simpa using ho) e (by simpa using he) hbd
            exact ihj e.on (by omega) (by omega)
          rw [hr] at this; simp at this
    induction fuel with
    | zero =>
      intro listed a w hsz hcnt hcl hF
      have hall' : ∀ j, j < ops.size → listed.getD j false = true := by
        intro j hj
        have := List.countP_eq_zero.1 hcnt j (by simpa using hj)
        rw [hgd listed j hsz hj] at this
        simpa using this
      refine ⟨?_, done listed a w hsz hall' hF⟩
      rw [List.eq_nil_iff_forall_not_mem]
      intro j hj
      rw [mem_ready] at hj
      obtain ⟨h0, o, ho, _⟩ := hj
      have hlt : j < ops.size := (Array.getElem?_eq_some_iff.1 ho).1
      rw [hgd listed j hsz hlt, hall' j hlt] at h0
      cases h0
    | succ fuel ih =>
      intro listed a w hsz hcnt hcl hF
      refine ⟨fun hr => done listed a w hsz (allOf listed hsz hr) hF, fun i hi => ?_⟩
      rw [mem_ready] at hi
      obtain ⟨h0, o, ho, hed⟩ := hi
      have hlt : i < ops.size := (Array.getElem?_eq_some_iff.1 ho).1
      have hun : listed.getD i false = false := by rw [← hgd listed i hsz hlt]; exact h0
      have hx := hlex i o ho
      -- what has been done, of all that touches what i touches, is what stands before i
      have hbefore : ∀ k, ((befL ops.toList []).getD i 0).testBit k = true → listed.getD k false = true :=
        befL_closed (ops := ops.toList) (D := fun j => listed.getD j false = true) (fun j o' hj ho' => hcl j o' hj (by simpa using ho')) ops.toList [] [] rfl rfl (fun j hj => by simp at hj) i o (by simpa using ho) (fun e he hb => hed e (by simpa using he) hb)
      have hafter : ∀ j oj, ops[j]? = some oj → listed.getD j false = true → ((befL ops.toList []).getD j 0).testBit i = true → False := by
        intro j oj hoj hj hbit
        have : listed.getD i false = true := befL_closed (ops := ops.toList) (D := fun j => listed.getD j false = true) (fun j o' hj ho' => hcl j o' hj (by simpa using ho')) ops.toList [] [] rfl rfl (fun j hj => by simp at hj) j oj (by simpa using hoj) (fun e he hb => hcl j oj hj hoj e (by simpa using he) hb) i hbit
        rw [hun] at this; cases this
      have ordT : ∀ t, (t ∈ opTmps ops.toList o ∨ o.dst = some t) → ∀ j, j < ops.size → dst j = some t → (listed.getD j false = true ↔ (j < i ∧ true = true)) := by
        intro t ht j hj hd
        by_cases e : j = i
        · subst e; simp [hun]
        obtain ⟨oj, hoj⟩ := hobj j hj
        have hdj : oj.dst = some t := by
          have : (ops.toList[j]?).bind (·.dst) = some t := hd
          simpa [hoj] using this
        obtain ⟨c1, c2⟩ := hconfT i j o oj t ho hoj (Ne.symm e) ht hdj
        constructor
        · intro hl
          refine ⟨?_, rfl⟩
          rcases Nat.lt_or_ge j i with h1 | h1
          · exact h1
          · exact (hafter j oj hoj hl (htc i j o oj ho hoj (by omega) c1)).elim
        · rintro ⟨h1, _⟩
          exact hbefore j (htc j i oj o hoj ho h1 c2)
      have ordO : ∀ l, (l ∈ (to i).looks ∨ l ∈ (to i).writes) → ∀ j, j < ops.size → getO (U j) l ≠ none → (listed.getD j false = true ↔ (j < i ∧ true = true)) := by
        intro l hl j hj hd
        by_cases e : j = i
        · subst e; simp [hun]
        obtain ⟨oj, hoj⟩ := hobj j hj
        obtain ⟨c1, c2⟩ := hconfO (to i) (to j) l hl (hwr j oj l hoj hd)
        constructor
        · intro hl
          refine ⟨?_, rfl⟩
          rcases Nat.lt_or_ge j i with h1 | h1
          · exact h1
          · exact (hafter j oj hoj hl (hoc i j (by omega) hj c1)).elim
        · rintro ⟨h1, _⟩
          exact hbefore j (hoc j i h1 hlt c2)
      have eqT : ∀ t, (t ∈ opTmps ops.toList o ∨ o.dst = some t) → vT dst V t (getT s.tm t) (fun j => listed.getD j false) ops.size = vT dst V t (getT s.tm t) (fun _ => true) i :=
        fun t ht => vT_eq (Nat.le_of_lt hlt) (fun j hj hd => ordT t ht j hj hd)
      have eqO : ∀ l, (l ∈ (to i).looks ∨ l ∈ (to i).writes) → vO U l (getO s.ob l) (fun j => listed.getD j false) ops.size = vO U l (getO s.ob l) (fun _ => true) i :=
        fun l hl => vO_eq (Nat.le_of_lt hlt) (fun j hj hd => ordO l hl j hj hd)
      obtain ⟨σ, hF⟩ := hF
      have hAt : ∀ t, t ∈ opTmps ops.toList o → AR P w E.St (Mof E.M0 σ) σ (getT (S i).tm t) (a.tmps.getD t undef) := by
        intro t ht
        have h1 : AR P w E.St (Mof E.M0 σ) σ (vT dst V t (getT s.tm t) (fun j => listed.getD j false) ops.size) (a.tmps.getD t undef) := hF.tm t
        rw [eqT t (.inl ht)] at h1
        exact (hx.tm t).to P w E.St _ σ _ h1
      have hwant := hx.guard a.tmps (fun t ht => ⟨P, w, _, _, σ, hAt t ht⟩)
      -- the next state
      have hsel : ∀ j, (listed.setIfInBounds i true).getD j false = (listed.getD j false || j == i) := by
        intro j
        by_cases e : j = i
        · subst e; simp [Array.getD_eq_getD_getElem?, hsz, hlt]
        · have : (j == i) = false := by simpa using e
          rw [this, Bool.or_false, getD_set_ne false (Ne.symm e)]
      have hnT : ∀ t, vT dst V t (getT s.tm t) (fun j => (listed.setIfInBounds i true).getD j false) ops.size = if o.dst = some t then V i else vT dst V t (getT s.tm t) (fun j => listed.getD j false) ops.size := by
        intro t
        rw [vT_add (sel := fun j => listed.getD j false) (i := i) hsel hun (fun j hj hij hdi hdj => by
          have hdi' : o.dst = some t := by
            have : (ops.toList[i]?).bind (·.dst) = some t := hdi
            simpa [ho] using this
          have := ordT t (.inr hdi') j hj hdj
          cases hb : listed.getD j false with
          | false => rfl
          | true => have := (this.1 hb).1; omega)]
        have : dst i = o.dst := by show (ops.toList[i]?).bind (·.dst) = o.dst; simp [ho]
        rw [this]
        simp [hlt]
      have hnO : ∀ l, vO U l (getO s.ob l) (fun j => (listed.setIfInBounds i true).getD j false) ops.size = if getO (U i) l ≠ none then getO (U i) l else vO U l (getO s.ob l) (fun j => listed.getD j false) ops.size := by
        intro l
        rw [vO_add (sel := fun j => listed.getD j false) (i := i) hsel hun (fun j hj hij hdi hdj => by
          have := ordO l (.inr (hwr i o l ho hdi)) j hj hdj
          cases hb : listed.getD j false with
          | false => rfl
          | true => have := (this.1 hb).1; omega)]
        simp [hlt]
      have hnext : ∀ (a' : Act) (w' : World), (∃ σ, RelF P E (fun t => vT dst V t (getT s.tm t) (fun j => (listed.setIfInBounds i true).getD j false) ops.size) (fun l => vO U l (getO s.ob l) (fun j => (listed.setIfInBounds i true).getD j false) ops.size) σ a' w') → wpAny P .any ops Q fuel (listed.setIfInBounds i true) a' w' := by
        intro a' w' hF'
        refine ih (listed.setIfInBounds i true) a' w' (by simp [hsz]) ?_ (fun j oj hj hoj e he hb => ?_) hF'
        · have hnd : (List.range ops.size).Nodup := List.nodup_range
          have : (List.range ops.size).countP (fun j => !listed.getD j true) = (List.range ops.size).countP (fun j => !(listed.setIfInBounds i true).getD j true) + 1 := by
            rw [countP_flip (i := i) (p := fun j => !listed.getD j true) (q := fun j => !(listed.setIfInBounds i true).getD j true) (by show (!listed.getD i true) = true; rw [h0]; rfl) (by simp [Array.getD_eq_getD_getElem?, hsz, hlt]) (fun j hj => by show (!listed.getD j true) = (!(listed.setIfInBounds i true).getD j true); rw [getD_set_ne true (Ne.symm hj)]), if_pos hlt]
          omega
        · rw [hsel] at hj ⊢
          rw [Bool.or_eq_true] at hj ⊢
          rcases hj with hj | hj
          · exact .inl (hcl j oj hj hoj e he hb)
          · have : j = i := by simpa using hj
            subst this
            rw [ho] at hoj; cases hoj
            exact .inl (hed e (by simpa using he) hb)
      unfold wpOp
      rw [ho]
      simp only
      rw [hwant]
      cases hW : W i with
      | false =>
        simp only [Bool.false_eq_true, if_false]
        obtain ⟨hv, hu⟩ := hx.skip hW
        refine hnext _ _ ⟨σ, hF.skip hx.dst (fun t => ?_) (fun l => ?_)⟩
        · simp only [hnT, hv]
          by_cases e : o.dst = some t
          · exact .inl ⟨e, by rw [if_pos e]⟩
          · exact .inr ⟨e, by rw [if_neg e]⟩
        · simp only [hnO, hu]
          simp [getO]
      | true =>
        simp only [if_true]
        refine .inl ?_
        obtain ⟨hstep, hfresh⟩ := hx.run hW
        obtain ⟨hlk, hwk⟩ := hx.looks hW
        have hin : ∀ x ∈ o.op.operands, ∀ l ∈ refs (evO (S i).tm x), l ∈ (to i).looks := fun x hxm l hl => by rw [hlk]; exact looksOf_mem (Array.mem_toList_iff.2 hxm) hl
        have hobS : ∀ l, (l ∈ (to i).looks ∨ l ∈ (to i).writes) → getO (S i).ob l = vO U l (getO s.ob l) (fun j => listed.getD j false) ops.size := fun l hl => by rw [eqO l hl]; exact hx.ob l
        have hev : ∀ x ∈ o.op.operands, AR P w E.St (Mof E.M0 σ) σ (evO (S i).tm x) (a.eval x) := by
          intro x hxm
          cases x with
          | tmp t =>
            refine hAt t ?_
            unfold opTmps
            exact List.mem_append_left _ (List.mem_filterMap.2 ⟨.tmp t, Array.mem_toList_iff.2 hxm, rfl⟩)
          | const v => exact .pv _ _ (ofConst_rel v)
          | func f => exact .fn f [] #[] rfl (fun i c e => by simp at e)
          | global g => exact evO_global hE hF _ g
        have hrf : ∀ x ∈ o.op.operands, ∀ l ∈ refs (evO (S i).tm x), vO U l (getO s.ob l) (fun j => listed.getD j false) ops.size ≠ none := by
          intro x hxm l hl
          cases x with
          | tmp t =>
            have hm : t ∈ opTmps ops.toList o := by
              unfold opTmps
              exact List.mem_append_left _ (List.mem_filterMap.2 ⟨.tmp t, Array.mem_toList_iff.2 hxm, rfl⟩)
            have h1 : l ∈ refs (vT dst V t (getT s.tm t) (fun _ => true) i) := (hx.tm t).rf l hl
            rw [← eqT t (.inl hm)] at h1
            exact hF.wt t l h1
          | const v => simp [evO, refs] at hl
          | func f => simp [evO, refs, refs.refsL] at hl
          | global g => rw [refs_global] at hl; simp at hl
        have hUw : ∀ l, getO (U i) l ≠ none → l ∈ (to i).writes := fun l hl => hwr i o l ho hl
        refine (hstep.runs E.St E.M0 σ w a.eval (hF.inv hE) hev (fun x hxm l hl obj e => ?_) (fun l hl => ?_)).wp (fun v' w' ⟨σ', hp⟩ => hnext _ _ ⟨σ', hF.post hE hp hx.dst (fun l obj e => ?_) (fun l hl => ?_) (fun k obj e l hl => ?_) (fun t => ?_) (fun l => ?_)⟩)
        · refine hF.ob l obj ?_
          rw [← hobS l (.inl (hin x hxm l hl))]; exact e
        · rcases hfresh l hl with h1 | h1
          · exact .inl h1
          · rw [hobS l (.inr (hUw l hl))] at h1
            refine .inr ⟨hF.nob l h1, fun x hxm hl' => hrf x hxm l hl' h1⟩
        · have hl : getO (U i) l ≠ none := by rw [e]; simp
          show vO U l (getO s.ob l) (fun j => listed.getD j false) ops.size = none ∨ liveO (vO U l (getO s.ob l) (fun j => listed.getD j false) ops.size) = true ∨ obj = .gone
          rw [← hobS l (.inr (hUw l hl))]
          rcases hfresh l hl with h1 | h1
          · exact .inr (hstep.lv l obj e h1)
          · exact .inl h1
        · rcases hstep.rv l hl with ⟨x, hxm, h1⟩ | h1
          · exact .inl (hrf x hxm l h1)
          · exact .inr h1
        · rcases hstep.ro k obj e l hl with ⟨x, hxm, h1⟩ | h1
          · exact .inl (hrf x hxm l h1)
          · exact .inr h1
        · simp only [hnT]
          by_cases e : o.dst = some t
          · exact .inl ⟨e, by rw [if_pos e]⟩
          · exact .inr ⟨e, by rw [if_neg e]⟩
        · simp only [hnO]
          cases e : getO (U i) l with
          | none => exact .inr ⟨rfl, by simp⟩
          | some ob => exact .inl ⟨ob, rfl, by simp⟩
  refine main ops.size (Array.replicate ops.size false) a w (by simp) ?_ (fun j o hj => ?_) ⟨σ, ?_⟩
  · have : (List.range ops.size).countP (fun i => !(Array.replicate ops.size false).getD i true) = (List.range ops.size).length := by
      rw [List.countP_eq_length]
      intro j hj
      have hj' : j < ops.size := by simpa using hj
      simp [Array.getD, hj']
    rw [this]; simp
  · have : (Array.replicate ops.size false).getD j false = false := by
      by_cases h : j < ops.size <;> simp [Array.getD, h]
    rw [this] at hj; cases hj
  · have hf : ∀ j, (Array.replicate ops.size false).getD j false = false := by
      intro j
      by_cases h : j < ops.size <;> simp [Array.getD, h]
    have e1 : ∀ t, vT dst V t (getT s.tm t) (fun j => (Array.replicate ops.size false).getD j false) ops.size = getT s.tm t := fun t => vT_eq (sel' := fun _ => true) (i := 0) (Nat.zero_le _) (fun j _ _ => by simp [hf])
    have e2 : ∀ l, vO U l (getO s.ob l) (fun j => (Array.replicate ops.size false).getD j false) ops.size = getO s.ob l := fun l => vO_eq (sel' := fun _ => true) (i := 0) (Nat.zero_le _) (fun j _ _ => by simp [hf])
    exact hR.sub (fun t => by simp only [e1]; exact .rfl) (fun l => e2 l)

end Go.Abs
