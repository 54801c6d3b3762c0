/- Scenes: data, and what the functions answer. -/
import Derived.Test.YthelcfpfbnhcjaaDoorX04
import Derived.Test.YthelcfpfbnhcjaaDoorX03
import Derived.Shelf.Spec.SlicesGrow
import Derived.Test.YthelcfpfbnhcjaaDoorProg

set_option linter.unusedVariables false
set_option linter.unusedSimpArgs false
set_option linter.unusedSectionVars false

namespace Go.Abs
variable [Globals]

structure Scene where
  name : ByteArray
  items : List Item
  deriving Inhabited, DecidableEq
structure Cause where
  kind : Int
  name : ByteArray
  prio : Int
  deriving Inhabited, DecidableEq
structure Write where
  key : Key
  value : Val
  cause : Cause
  order : Int
  deriving Inhabited, DecidableEq

def cSce (s : Scene) : List PV := [vstr s.name, roL 7 cItem s.items]
def cCause (c : Cause) : List PV := [vint c.kind, vstr c.name, vint c.prio]
def cWrite (w : Write) : List PV := cKey w.key ++ (cVal w.value ++ (cCause w.cause ++ [vint w.order]))
def noScene : Scene := ⟨⟨#[]⟩, []⟩

theorem firstI_cases {n : Nat} {p : Nat → Bool} : (firstI n p < n ∧ p (firstI n p) = true ∧ ∀ j, j < firstI n p → p j = false) ∨ (firstI n p = n ∧ ∀ j, j < n → p j = false) := by
  unfold firstI
  split
  · rename_i i e
    rw [List.find?_range_eq_some] at e
    exact .inl ⟨by simpa using e.2.1, e.1, fun j hj => by simpa using e.2.2 j hj⟩
  · rename_i e
    rw [List.find?_eq_none] at e
    exact .inr ⟨rfl, fun j hj => by simpa using e j (by simpa using hj)⟩

/-- the first item with a key -/
def findI (l : List Item) (q : Key) : Option Item := l.find? fun x => decide (x.key = q)

theorem findI_eq (l : List Item) (q : Key) : findI l q = if itemAt l q < l.length then some (l.getD (itemAt l q) default) else none := by
  unfold findI itemAt
  rcases firstI_cases (n := l.length) (p := fun i => decide ((l.getD i default).key = q)) with ⟨h1, h2, h3⟩ | ⟨h1, h2⟩
  · rw [if_pos h1, getD_getElem _ _ h1, List.find?_eq_some_iff_getElem]
    rw [getD_getElem _ _ h1] at h2
    refine ⟨h2, _, h1, rfl, fun j hj => ?_⟩
    have := h3 j hj
    rw [getD_getElem _ _ (by omega)] at this
    simpa using this
  · rw [if_neg (by omega), List.find?_eq_none]
    intro x hx
    obtain ⟨i, hi, rfl⟩ := List.getElem_of_mem hx
    have := h2 i hi
    rw [getD_getElem _ _ hi] at this
    simpa using this

theorem itemAt_isSome (l : List Item) (q : Key) : decide (itemAt l q < l.length) = (findI l q).isSome := by
  rw [findI_eq]; split <;> simp_all
theorem getI_find (l : List Item) (q : Key) : getI l q = (findI l q).getD noItem := by
  rw [getI, findI_eq]; split <;> rfl

theorem findI_take {l : List Item} {k : Nat} {q : Key} (hk : k < l.length) : findI (l.take (k + 1)) q = match findI (l.take k) q with | some x => some x | none => if (l.getD k default).key = q then some (l.getD k default) else none := by
  unfold findI
  rw [take_succ_getD hk, List.find?_append]
  cases (l.take k).find? fun x => decide (x.key = q) with
  | some x => rfl
  | none =>
    simp only [List.find?_cons, List.find?_nil, Option.none_or]
    by_cases e : (l.getD k default).key = q
    · simp [e, -List.getD_eq_getElem?_getD]
    · simp [e, -List.getD_eq_getElem?_getD]

theorem findI_key {l : List Item} {q : Key} {x : Item} (h : findI l q = some x) : x.key = q := by
  unfold findI at h
  have := List.find?_some h
  simpa using this
theorem findI_mem {l : List Item} {q : Key} {x : Item} (h : findI l q = some x) : x ∈ l := List.mem_of_find?_eq_some h
theorem findI_some {l : List Item} {q : Key} : (findI l q).isSome = true ↔ ∃ x ∈ l, x.key = q := by
  unfold findI
  rw [List.find?_isSome]
  simp
theorem findI_none {l : List Item} {q : Key} : findI l q = none ↔ ∀ x ∈ l, x.key ≠ q := by
  unfold findI
  rw [List.find?_eq_none]
  simp

/-! Maps from keys to items. -/
abbrev KKey : KK := .agg [.int .i64, .str, .str]

theorem has_key {v : Value} (h : KKey.has v) : ∃ k : Key, v = .agg ⟨vKey k⟩ := by
  obtain ⟨vs, rfl, hs, hl⟩ := h
  obtain ⟨d, h0⟩ := hl 0 (.int .i64) rfl
  obtain ⟨c, h1⟩ := hl 1 .str rfl
  obtain ⟨a, h2⟩ := hl 2 .str rfl
  refine ⟨⟨d, c, a⟩, ?_⟩
  congr 1
  apply Array.ext
  · simpa [vKey] using hs
  · intro i hi1 hi2
    have h3 : i = 0 ∨ i = 1 ∨ i = 2 := by simp at hs; omega
    rcases h3 with rfl | rfl | rfl
    · simpa [Array.getD, hi1, vKey] using h0
    · simpa [Array.getD, hi1, vKey] using h1
    · simpa [Array.getD, hi1, vKey] using h2

def kOf : Value → Key
  | .agg ⟨[.int _ d, .string c, .string a]⟩ => ⟨d, c, a⟩
  | _ => default
theorem kOf_key (k : Key) : kOf (.agg ⟨vKey k⟩) = k := rfl
theorem vKey_inj {a b : Key} : (Value.agg ⟨vKey a⟩ = Value.agg ⟨vKey b⟩) ↔ a = b := by
  constructor
  · intro h
    have := congrArg kOf h
    simpa [kOf_key] using this
  · rintro rfl; rfl

def itemLook (f : Key → Option Item) : Value → Option PV := fun v => (f (kOf v)).map fun x => .agg (cItem x)
theorem itemLook_key (f : Key → Option Item) (k : Key) : itemLook f (.agg ⟨vKey k⟩) = (f k).map fun x => .agg (cItem x) := rfl

theorem lookPut_yes {look : Value → Option PV} {k k' : Value} {p : PV} (h : k' = k) : lookPut look k p k' = some p := by unfold lookPut; rw [if_pos h]
theorem lookPut_no {look : Value → Option PV} {k k' : Value} {p : PV} (h : k' ≠ k) : lookPut look k p k' = look k' := by unfold lookPut; rw [if_neg h]

/-! scene.Check -/
def sceE (H : Hom) (l : List Item) (i : Nat) : Int :=
  if (findA H (l.getD i default).key).isSome = false then 8 else if ((findA H (l.getD i default).key).getD noAttr).writable = false then 24
  else if fitsE ((findA H (l.getD i default).key).getD noAttr) (l.getD i default).value ≠ 0 then fitsE ((findA H (l.getD i default).key).getD noAttr) (l.getD i default).value
  else if (l.getD i default).version ≠ 0 then 2 else if 0 < i ∧ keyLess (l.getD (i - 1) default).key (l.getD i default).key = false then 14 else 0
def checkS (H : Hom) (s : Scene) : Int :=
  if homE H ≠ 0 then homE H else if validName s.name = false then 10 else if 256 < s.items.length then 3 else firstE s.items.length (sceE H s.items)

/-! scene.Capture -/
def capI (H : Hom) (l : List Item) (k : Key) : Option Item := match findA H k, findI l k with
  | some a, some x => if a.writable = true ∧ fitsE a x.value = 0 then some ⟨k, x.value, 0⟩ else none
  | _, _ => none
def capTo (H : Hom) (l : List Item) (ks : List Key) : List Item := ks.filterMap (capI H l)
def capSE (H : Hom) (name : ByteArray) : Int := if homE H ≠ 0 then homE H else if validName name = false then 10 else 0
def capS (H : Hom) (l : List Item) (name : ByteArray) (keys : List Key) : Scene := if capSE H name ≠ 0 then noScene else ⟨name, capTo H l (sortK keys)⟩

/-! scene.Apply -/
def applyS (s : Scene) (c : Cause) (n : Nat) : List Write := (List.range n).map fun i => ⟨(s.items.getD i default).key, (s.items.getD i default).value, c, i⟩

/-! scene.Differs, Undo, Join, Find -/
def difB (a b : Option Item) : Bool := match b with
  | none => true
  | some y => decide (y.value ≠ (a.getD noItem).value)
def difS (s l : List Item) : List Key := (sortK (s.map Item.key)).filter fun k => difB (findI s k) (findI l k)
def undoI (l : List Item) (x : Item) : Option Item := (findI l x.key).map fun y => ⟨y.key, y.value, 0⟩
def undoS (s : Scene) (l : List Item) : Scene := ⟨s.name, s.items.filterMap (undoI l)⟩
def joinI (a b : List Item) (k : Key) : Item := ((findI b k).getD ((findI a k).getD noItem))
def joinS (a b : Scene) : Scene := ⟨a.name, (sortK (a.items.map Item.key ++ b.items.map Item.key)).map (joinI a.items b.items)⟩
def sceAt (l : List Scene) (s : ByteArray) : Nat := firstI l.length fun i => decide ((l.getD i default).name = s)
def findS (l : List Scene) (s : ByteArray) : Scene := if sceAt l s < l.length then l.getD (sceAt l s) default else noScene

end Go.Abs

namespace Go.Abs
open Go.Proofs
set_option maxRecDepth 10000

end Go.Abs

namespace Go.Abs
open Go.Proofs
set_option maxRecDepth 10000

theorem item_eq (a b : Item) : (decide (a.key.dev = b.key.dev) && (decide (a.key.cluster = b.key.cluster) && (decide (a.key.attr = b.key.attr) && (decide (a.value.kind = b.value.kind) && (decide (a.value.n = b.value.n) && (decide (a.value.s = b.value.s) && (decide (a.version = b.version) && true))))))) = decide (a = b) := by
  obtain ⟨⟨a1, a2, a3⟩, ⟨a4, a5, a6⟩, a7⟩ := a
  obtain ⟨⟨b1, b2, b3⟩, ⟨b4, b5, b6⟩, b7⟩ := b
  rw [Bool.eq_iff_iff]; simp [and_assoc]

theorem ac_r22_SameKeys (a b : List Key) (ha : a.length ≤ 4194304) : AC Tryd.prog 7 [.pv (roL 3 cKey a), .pv (roL 3 cKey b)] [] (.pv (vbool (decide (a = b)))) [] := by
  refine AC.of_awp (T := T) T_ok hm Tryd.call7 Tryd.func7 rfl rfl rfl ?_
  conv => whnf
  refine ⟨fun h => ?_, fun h => ?_⟩ <;> (try simp only [decide_eq_true_eq, decide_eq_false_iff_not, Bool.not_eq_true', Bool.not_eq_false', Int.toNat_natCast, beq_iff_eq, decide_eq_decide, beq_eq_false_iff_ne, ne_eq, reduceCtorEq] at h) <;> (conv => whnf)
  · exact PSub.lit_sb (by symm; simp only [decide_eq_false_iff_not]; intro e; exact h (by rw [e]))
  have hl := h
  refine loop_k (ι := Nat) [0, 1] [] (fun k => k ≤ a.length ∧ (∀ j, j < k → a.getD j default = b.getD j default)) (fun k => a.length - k) 0 (fun k => [(5, .pv (vint k))]) (fun _ => []) [] ⟨Nat.zero_le _, fun j h => absurd h (by omega)⟩ ?_ (fun k hk => ?_)
  · (repeat' (first | exact PSub.rfl | exact rfl | exact PSubs.rfl | exact trivial | refine And.intro ?_ ?_))
  obtain ⟨hkn, hinv⟩ := hk
  conv => whnf
  repeat (any_goals (first
    | (refine ⟨fun (h : (_ : Bool) = true) => ?_, fun (h : (_ : Bool) = false) => ?_⟩ <;> (try simp only [decide_eq_true_eq, decide_eq_false_iff_not, Bool.not_eq_true', Bool.not_eq_false', Int.toNat_natCast, beq_iff_eq, decide_eq_decide, beq_eq_false_iff_ne, ne_eq, reduceCtorEq] at h) <;> (conv => whnf))
    | (refine And.intro (by (try simp only [Int.toNat_natCast]); omega) ?_; conv => whnf)
    | (refine And.intro (show (_ : Bool) = true from by kernel_rfl) ?_; conv => whnf)
    | (refine .inl ⟨wrap64 (by omega), ?_⟩; conv => whnf)))
  all_goals try rw [key_eq] at h
  all_goals try simp only [decide_eq_true_eq, decide_eq_false_iff_not] at h
  · exact PSub.lit_sb (by symm; simp only [decide_eq_false_iff_not]; intro e; exact h (by rw [e]))
  · refine ⟨k + 1, [], ⟨by omega, ?_⟩, by first | omega | (dsimp only; omega), ?_⟩
    rotate_left
    · (repeat' (first | exact PSub.rfl | exact rfl | exact PSubs.rfl | exact trivial | refine And.intro ?_ ?_))
    intro j hj
    by_cases e : j = k
    · subst e; first | exact h | simpa [-List.getD_eq_getElem?_getD] using h | simp_all [-List.getD_eq_getElem?_getD]
    · exact hinv j (by omega)
  · exact PSub.lit_sb (by symm; simp only [decide_eq_true_eq]; exact list_eq (by omega) fun i hi => hinv i (by omega))

structure Op where
  H : Hom
  L : List Item
  K : Key
  V : Val
  deriving Inhabited
def cOp (x : Op) : List PV := cHom x.H ++ (roL 7 cItem x.L :: (cKey x.K ++ cVal x.V))

theorem getI_eq (a b : Item) : a = b → decide (a = b) = true := fun h => by simp [h]

theorem initL_length {H : Hom} {id : Int} : (initL H id).length = (keysL H id).length := by simp [initL]

section
variable {H : Type} {enc : TypeId × Value → H} {w : World} {bulk : DataW H → Nat}
theorem op_law22_Op (hB : BulkOk bulk) : Opens enc Tryd.prog w bulk BB 37 cOp (fun x => smallH x.H ∧ goodItems x.L ∧ goodKey x.K ∧ goodVal x.V) :=
  (Opens.struct hB Tryd.underlying37 (by kernel_rfl) (.cons (size := 2) rfl (by kernel_rfl) (op_Home hB) (.cons (size := 1) rfl (by kernel_rfl) (op_l_Item hB) (.cons (size := 3) rfl (by kernel_rfl) (op_Key hB) (.cons (size := 3) rfl (by kernel_rfl) (op_Value hB) .nil))))).imp (fun x => ⟨x.1, x.2.1, x.2.2.1, x.2.2.2.1⟩) (fun _ => rfl) (fun _ h => ⟨h.1, h.2.1, h.2.2.1, h.2.2.2.1⟩)
end

end Go.Abs

namespace Go.Abs
open Go.Proofs
set_option maxRecDepth 10000

/-- what is still to come of Put -/
def putRest (l : List Key) (k : Key) (done : Bool) : List Key := if done = true then l.filter (fun y => decide (y ≠ k)) else putK l k

theorem putRest_cons {l : List Key} {x k : Key} {done : Bool} : putRest (x :: l) k done =
    (if done = false ∧ keyLess x k = false then [k] else []) ++ (if x ≠ k then [x] else []) ++ putRest l k (done || !keyLess x k) := by
  cases done with
  | true =>
    simp only [putRest, Bool.true_or, if_true, List.filter_cons]
    by_cases e : x = k
    · simp [e]
    · simp [e]
  | false =>
    simp only [putRest, Bool.false_or, Bool.false_eq_true, if_false]
    rw [show putK (x :: l) k = if keyLess x k = true then x :: putK l k else k :: (x :: l).filter fun y => decide (y ≠ k) from rfl]
    cases h : keyLess x k with
    | true =>
      have hne : x ≠ k := fun e => by rw [e, keyLess_irrefl] at h; cases h
      simp [hne]
    | false =>
      by_cases e : x = k
      · simp [e]
      · simp [e]

theorem ac_r22_Put (l : List Key) (q : Key) (hl : l.length ≤ 8388608) : AC Tryd.prog 21 [.pv (roL 3 cKey l), .pv (.agg (cKey q))] [] (.pv (roL 3 cKey (putK l q))) [] := by
  refine AC.of_awp (T := T) T_ok hm Tryd.call21 Tryd.func21 rfl rfl rfl ?_
  conv => whnf
  refine loop_k (ι := Nat × List Key × Bool) [0, 3] [3] (fun x => x.1 ≤ l.length ∧ x.2.1.length ≤ x.1 + x.2.2.toNat ∧ putK l q = x.2.1 ++ putRest (l.drop x.1) q x.2.2) (fun x => l.length - x.1) (0, [], false) (fun x => [(5, .own 500), (6, .pv (.sb x.2.2)), (7, .pv (vint x.1))]) (fun x => [(500, rowL 3 cKey x.2.1)]) [] ⟨Nat.zero_le _, by simp, by simp [putRest]⟩ ?_ (fun x hx => ?_)
  · (repeat' (first | exact PSub.rfl | exact rfl | exact PSubs.rfl | exact trivial | refine And.intro ?_ ?_))
    exact PSub.lit_sb rfl
  obtain ⟨k, acc, done⟩ := x
  obtain ⟨hkn, hacc, hinv⟩ := hx
  simp only at hkn hacc hinv
  dsimp only
  have hb : done.toNat ≤ 1 := by cases done <;> decide
  have hd : k < l.length → l.drop k = l.getD k default :: l.drop (k + 1) := fun h => by rw [getD_getElem _ _ h]; exact List.drop_eq_getElem_cons h
  have row2 : ∀ (F G : Nat → List PV) (x : Key), (∀ i, i < (acc ++ [q]).length → PSubs (F i) (cKey ((acc ++ [q]).getD i default))) → (∀ i, i < acc.length + 1 → G i = F i) → PSubs (G (acc.length + 1)) (cKey x) → ∀ i, i < (acc ++ [q] ++ [x]).length → PSubs (G i) (cKey ((acc ++ [q] ++ [x]).getD i default)) := by
    intro F G x h1 h2 h3
    refine rows_snocF (fun i hi => ?_) (by simpa using h3)
    rw [h2 i (by simpa using hi)]
    exact h1 i hi
  conv => whnf
  repeat (any_goals (first
    | (refine ⟨fun (h : (_ : Bool) = true) => ?_, fun (h : (_ : Bool) = false) => ?_⟩ <;> (try simp only [decide_eq_true_eq, decide_eq_false_iff_not, Bool.not_eq_true', Bool.not_eq_false', Int.toNat_natCast, beq_iff_eq, decide_eq_decide, beq_eq_false_iff_ne, ne_eq, reduceCtorEq] at h) <;> (conv => whnf))
    | (refine .inl ⟨_, ac_r22_Less (l.getD k default) q, ?_⟩; conv => whnf)
    | (refine And.intro (by (try simp only [Int.toNat_natCast]); omega) ?_; conv => whnf)
    | (refine And.intro (show (_ : Bool) = true from by kernel_rfl) ?_; conv => whnf)
    | (refine .inl ⟨wrap64 (by omega), ?_⟩; conv => whnf)))
  · rename_i hlt hdn hless
    rw [key_eq] at h
    simp only [decide_eq_false_iff_not] at h
    rw [hdn] at hacc
    rw [hd (by omega), putRest_cons, hdn, hless, if_pos ⟨rfl, rfl⟩, if_pos h] at hinv
    refine ⟨(k + 1, acc ++ [q] ++ [l.getD k default], true), [(500, 41)], ⟨by dsimp only; omega, by simp at *; omega, by rw [hinv]; simp⟩, by dsimp only; omega, ?_⟩
    dsimp only
    (repeat' (first | exact PSub.rfl | exact rfl | exact PSubs.rfl | exact trivial | refine And.intro ?_ ?_))
    · simp
    · refine row2 (fun i => if i < acc.length then cKey (acc.getD i default) else cKey q) _ _ ?_ (fun i hi => ?_) ?_
      · refine rows_snocF (fun i hi => by simp only [if_pos hi]; exact PSubs.rfl) (by simp only [if_neg (Nat.lt_irrefl _), Nat.sub_self]; exact PSubs.rfl)
      · simp only [if_pos hi]
        by_cases e : i < acc.length
        · simp only [if_pos e]
        · simp only [if_neg e, show i - acc.length = 0 from by omega]; rfl
      · simp only [if_neg (Nat.lt_irrefl _), Nat.sub_self]; exact PSubs.rfl
    · exact PSub.lit_sb rfl
  · rename_i hlt hdn hless
    rw [key_eq] at h
    simp only [decide_eq_true_eq] at h
    rw [hdn] at hacc
    rw [hd (by omega), putRest_cons, hdn, hless, if_pos ⟨rfl, rfl⟩, if_neg (fun hn => hn h)] at hinv
    refine ⟨(k + 1, acc ++ [q], true), [(500, 28)], ⟨by dsimp only; omega, by simp at *; omega, by rw [hinv]; simp⟩, by dsimp only; omega, ?_⟩
    dsimp only
    (repeat' (first | exact PSub.rfl | exact rfl | exact PSubs.rfl | exact trivial | refine And.intro ?_ ?_))
    · simp
    · refine rows_snocF (fun i hi => by simp only [if_pos hi]; exact PSubs.rfl) (by simp only [if_neg (Nat.lt_irrefl _), Nat.sub_self]; exact PSubs.rfl)
    · exact PSub.lit_sb rfl
  · rename_i hlt hdn hless
    rw [key_eq] at h
    simp only [decide_eq_false_iff_not] at h
    rw [hd (by omega), putRest_cons, hless, if_neg (fun hn => by cases hn.2), if_pos h] at hinv
    refine ⟨(k + 1, acc ++ [l.getD k default], done), [(500, 41)], ⟨by dsimp only; omega, by simp at *; omega, by rw [hinv]; simp⟩, by dsimp only; omega, ?_⟩
    dsimp only
    (repeat' (first | exact PSub.rfl | exact rfl | exact PSubs.rfl | exact trivial | refine And.intro ?_ ?_))
    · simp
    · refine rows_snocF (fun i hi => by simp only [if_pos hi]; exact PSubs.rfl) (by simp only [if_neg (Nat.lt_irrefl _), Nat.sub_self]; exact PSubs.rfl)
  · rename_i hlt hdn hless
    rw [key_eq] at h
    simp only [decide_eq_true_eq] at h
    rw [h, keyLess_irrefl] at hless; cases hless
  · rename_i hlt hdn
    rw [key_eq] at h
    simp only [decide_eq_false_iff_not] at h
    rw [hd (by omega), putRest_cons, hdn, if_neg (fun hn => by cases hn.1), if_pos h] at hinv
    refine ⟨(k + 1, acc ++ [l.getD k default], done), [(500, 41)], ⟨by dsimp only; omega, by simp at *; omega, by rw [hinv, hdn]; simp⟩, by dsimp only; omega, ?_⟩
    dsimp only
    (repeat' (first | exact PSub.rfl | exact rfl | exact PSubs.rfl | exact trivial | refine And.intro ?_ ?_))
    · simp
    · refine rows_snocF (fun i hi => by simp only [if_pos hi]; exact PSubs.rfl) (by simp only [if_neg (Nat.lt_irrefl _), Nat.sub_self]; exact PSubs.rfl)
  · rename_i hlt hdn
    rw [key_eq] at h
    simp only [decide_eq_true_eq] at h
    rw [hd (by omega), putRest_cons, hdn, if_neg (fun hn => by cases hn.1), if_neg (fun hn => hn h)] at hinv
    refine ⟨(k + 1, acc, done), [], ⟨by dsimp only; omega, by simp at *; omega, by rw [hinv, hdn]; simp⟩, by dsimp only; omega, ?_⟩
    dsimp only
    (repeat' (first | exact PSub.rfl | exact rfl | exact PSubs.rfl | exact trivial | refine And.intro ?_ ?_))
    intro i hi; exact PSubs.rfl
  · rw [List.drop_eq_nil_of_le (by omega), h] at hinv
    have hinv : putK l q = acc ++ [q] := hinv
    rw [hinv]
    refine PSub.ro (by simp) (fun i hi => ?_)
    revert i
    rw [show acc.length + 1 = (acc ++ [q]).length from by simp]
    refine rows_snocF (fun i hi => by simp only [if_pos hi]; exact PSubs.rfl) (by simp only [if_neg (Nat.lt_irrefl _), Nat.sub_self]; exact PSubs.rfl)
  · rw [List.drop_eq_nil_of_le (by omega), h] at hinv
    have hinv : putK l q = acc ++ [] := hinv
    rw [hinv, List.append_nil]
    exact .rfl

theorem sce_split (a b : Scene) : decide (a = b) = (decide (a.name = b.name) && decide (a.items = b.items)) := by
  obtain ⟨a1, a2⟩ := a
  obtain ⟨b1, b2⟩ := b
  rw [Bool.eq_iff_iff]; simp

theorem write_eq (a b : Write) : (decide (a.key.dev = b.key.dev) && (decide (a.key.cluster = b.key.cluster) && (decide (a.key.attr = b.key.attr) && (decide (a.value.kind = b.value.kind) && (decide (a.value.n = b.value.n) && (decide (a.value.s = b.value.s) &&
    (decide (a.cause.kind = b.cause.kind) && (decide (a.cause.name = b.cause.name) && (decide (a.cause.prio = b.cause.prio) && (decide (a.order = b.order) && true)))))))))) = decide (a = b) := by
  obtain ⟨⟨a1, a2, a3⟩, ⟨a4, a5, a6⟩, ⟨a7, a8, a9⟩, a0⟩ := a
  obtain ⟨⟨b1, b2, b3⟩, ⟨b4, b5, b6⟩, ⟨b7, b8, b9⟩, b0⟩ := b
  rw [Bool.eq_iff_iff]; simp [and_assoc]

theorem applyS_succ {s : Scene} {c : Cause} {k : Nat} : applyS s c (k + 1) = applyS s c k ++ [⟨(s.items.getD k default).key, (s.items.getD k default).value, c, k⟩] := by
  unfold applyS; rw [List.range_succ]; simp

end Go.Abs

namespace Go.Abs
open Go.RowKit Go.Shelf Go.Lib
variable [Globals]

section
variable {P : Program} {ρ : Ren}

theorem AC.grow (L : Proofs.Lays8.n4 P ρ) {t : TypeId} {i : TypeInfo} {z : Value} (hE : ElemOf P t (ρ.t 25) i z) (n : Nat) (hbig : n * i.bytes ≤ 140737488355328) (h63 : n ≤ 8388608) (f : Nat → List PV)
    (hcall : ∀ (vals : Array Value) (w : World), (callFunc (ρ.f 4) vals).run P w = .ok (.enter (ρ.f 4) vals) w) :
    AC P (ρ.f 4) [.pv (.val (.slice none 0 0)), .pv (.val (.int .i64 n))] [] (.own 0) [(0, .row i.size 0 f)] := by
  refine ⟨hcall, fun St M0 σ w vals hi hσ hos hsz hA => ?_⟩
  have hv0 := pr_val (arg_pv (hA 0 _ rfl))
  have hv1 := pr_val (arg_pv (hA 1 _ rfl))
  have hvals : vals = #[vals.getD 0 undef, vals.getD 1 undef] := by
    have hs2 : vals.size = 2 := hsz
    apply Array.ext
    · simpa using hs2
    · intro i h2 h3
      have : i = 0 ∨ i = 1 := by omega
      rcases this with rfl | rfl <;> simp [Array.getD, hs2]
  rw [hvals, hv0, hv1]
  have hf0 : σ 0 = none := hσ 0 rfl
  by_cases h0 : n = 0
  · subst h0
    refine (Proofs.Any8.slices_Grow_room L none 0 0 0 w (Nat.le_refl _) (by decide) (by decide) (Nat.le_refl _)).mono (fun e w' h => ?_)
    obtain ⟨rfl, rfl⟩ := h
    exact ⟨_, _, rfl, Post.made (loc := ⟨.slice none 0 0, none⟩) hi hf0 (fun b h => by cases h) (FExt.refl _ _) (by intro h; cases h) (.row0 _ _ _)⟩
  · refine (Proofs.Any8.slices_Grow_grow L i z hE.hi hE.hz hE.pos none 0 0 n [] w (Nat.le_refl _) (by omega) (by simpa using hbig) (by omega) (by simp) (fun _ => rfl) (fun a h => by cases h)).mono (fun e w' h => ?_)
    obtain ⟨rfl, rfl⟩ := h
    have hge := grownCap_ge w (0 + n) 0 (ρ.t 25)
    have hle := grownCap_le_maxLen w (0 + n) 0 (ρ.t 25) (by unfold maxLen; omega)
    generalize grownCap w (0 + n) 0 (ρ.t 25) = c at *
    refine ⟨_, _, rfl, Post.made (loc := ⟨.slice (some ⟨w.heap.size, 0, none⟩) 0 c, some w.heap.size⟩) hi hf0 (fun b h => by cases h; exact Nat.le_refl _)
      ⟨rfl, rfl, rfl, (same_alloc (fun _ => False) w.drew _).1, fun b hlt _ => alloc_old w.drew _ b hlt, Nat.le_succ _⟩ (by intro h; cases h)
      (.row i.size 0 f w.heap.size c _ (ρ.t 25) (alloc_new w.drew _) (Nat.zero_le _) hle ?_ (fun k h => absurd h (by omega)) (fun k h => absurd h (by omega)) (fun k hk => ?_))⟩
    · rw [Array.size_append, Array.size_append, size_zeroCells, size_zeroCells, hE.zs, List.size_toArray, List.length_nil, Nat.zero_add, ← Nat.add_mul]
      congr 1; omega
    · have hz0 : ∀ m : Nat, (Builtin.zeroCells z.cells m).size = m * z.cells.size := fun m => size_zeroCells ..
      have e0 : (([] : List Value).toArray ++ Builtin.zeroCells z.cells (0 + n - 0)) = Builtin.zeroCells z.cells (0 + n - 0) := by simp
      rw [e0] at hk ⊢
      by_cases hlt : k < (Builtin.zeroCells z.cells (0 + n - 0)).size
      · rw [getD_append_left hlt]
        exact zeroCells_get (by rw [hz0] at hlt; exact hlt) hE.z1
      · have e1 : (Builtin.zeroCells z.cells (0 + n - 0) ++ Builtin.zeroCells z.cells (c - (0 + n))).getD k undef = (Builtin.zeroCells z.cells (c - (0 + n))).getD (k - (Builtin.zeroCells z.cells (0 + n - 0)).size) undef := by
          simp only [Array.getD_eq_getD_getElem?]
          rw [Array.getElem?_append_right (Nat.le_of_not_lt hlt)]
        rw [e1]
        rw [Array.size_append] at hk
        have q1 := hz0 (c - (0 + n))
        have q2 := hz0 (0 + n - 0)
        exact zeroCells_get (by omega) hE.z1
end

end Go.Abs

namespace Go.Proofs
open Go.Shelf
def Tryd.growItem_ren : Go.Shelf.Ren := ⟨fun | 4 => 35 | n => n, fun | 22 => 22 | 25 => 43 | 3 => 3 | 4 => 4 | 9 => 9 | 20 => 20 | 0 => 0 | n => n, fun | n => n⟩
theorem Tryd.growItem : Go.Proofs.Lays8.n4 Tryd.prog Tryd.growItem_ren := {
  mixed := by kernel_rfl
  f4 := ⟨Tryd.f35.name, by decide, Tryd.func35.trans (congrArg some (by kernel_rfl))⟩
  t0 := Tryd.underlying0
  a0 := Tryd.isAgg0
  z0 := Tryd.sizeOf0
  v0 := Tryd.zeroValue0
  t3 := Tryd.underlying3
  a3 := Tryd.isAgg3
  z3 := Tryd.sizeOf3
  v3 := Tryd.zeroValue3
  t4 := Tryd.underlying4
  a4 := Tryd.isAgg4
  z4 := Tryd.sizeOf4
  v4 := Tryd.zeroValue4
  t9 := Tryd.underlying9
  a9 := Tryd.isAgg9
  z9 := Tryd.sizeOf9
  v9 := Tryd.zeroValue9
  t20 := Tryd.underlying20
  a20 := Tryd.isAgg20
  z20 := Tryd.sizeOf20
  v20 := Tryd.zeroValue20
  t22 := Tryd.underlying22
  a22 := Tryd.isAgg22
  z22 := Tryd.sizeOf22
  v22 := Tryd.zeroValue22 }
end Go.Proofs

namespace Go.Abs
open Go.Proofs
set_option maxRecDepth 10000

theorem ac_slices_Grow_Item (n : Nat) (hn : n ≤ 8388608) : AC Tryd.prog 35 [.pv (.val (.slice none 0 0)), .pv (vint n)] [] (.own 0) [(0, .row 7 0 fun _ => [])] := by
  obtain ⟨e, i, z, hE, hs⟩ := elemOf_spec (T := T) T_ok (t := 22) (size := 7) (by kernel_rfl)
  have he : e = 43 := by have := hE.ht; rw [Tryd.underlying22] at this; cases this; rfl
  subst he
  have := AC.grow Tryd.growItem hE n (Nat.le_trans (Nat.mul_le_mul hn hE.small) (by decide)) hn (fun _ => []) Tryd.call35
  rw [hs] at this
  exact this

theorem flat_take {ls : List (List Item)} {k : Nat} (h : k < ls.length) : (ls.take (k + 1)).flatten = (ls.take k).flatten ++ ls.getD k default := by
  rw [take_succ_getD h, List.flatten_append]; simp [-List.getD_eq_getElem?_getD]
theorem flat_le {ls : List (List Item)} {k : Nat} : (ls.take k).flatten.length ≤ ls.flatten.length := by
  conv => rhs; rw [← List.take_append_drop k ls, List.flatten_append, List.length_append]
  omega

theorem flat_add {ls : List (List Item)} {k : Nat} : (ls.take k).flatten.length + (ls.getD k default).length ≤ ls.flatten.length := by
  by_cases h : k < ls.length
  · have := flat_le (ls := ls) (k := k + 1)
    rw [flat_take h, List.length_append] at this
    exact this
  · have : ls.getD k default = [] := by simp [List.getD, Nat.le_of_not_lt h]; rfl
    rw [this]
    exact flat_le

theorem ac_slices_Concat_Item (ls : List (List Item)) (hl : smallL ls) (hf : ls.flatten.length ≤ 8388608) : AC Tryd.prog 17 [.pv (roL 1 (fun l => [roL 7 cItem l]) ls)] [] (.own 0) [(0, rowL 7 cItem ls.flatten)] := by
  have hl2 : ls.length ≤ 1048576 := hl
  refine AC.of_awp_own (T := T) T_ok hm Tryd.call17 Tryd.func17 rfl rfl rfl ?_
  conv => whnf
  refine loop_k (ι := Nat) [0, 9, 10] [] (fun k => k ≤ ls.length ∧ True) (fun k => ls.length - k) 0 (fun k => [(3, .pv (vint (ls.take k).flatten.length)), (11, .pv (vint k))]) (fun k => []) [] ⟨Nat.zero_le _, trivial⟩ ?_ (fun k hk => ?_)
  · (repeat' (first | exact PSub.rfl | exact rfl | exact PSubs.rfl | exact trivial | refine And.intro ?_ ?_))
  obtain ⟨hkn, -⟩ := hk
  conv => whnf
  have hadd := flat_add (ls := ls) (k := k)
  repeat (any_goals (first
    | (refine ⟨fun (h : (_ : Bool) = true) => ?_, fun (h : (_ : Bool) = false) => ?_⟩ <;> (try simp only [decide_eq_true_eq, decide_eq_false_iff_not, Bool.not_eq_true', Bool.not_eq_false', Int.toNat_natCast, beq_iff_eq, decide_eq_decide, beq_eq_false_iff_ne, ne_eq, reduceCtorEq] at h) <;> (conv => whnf))
    | (refine .inr (.inl ⟨_, _, _, ac_slices_Grow_Item (ls.take k).flatten.length (Nat.le_trans flat_le hf), ?_⟩); conv => whnf)
    | (refine And.intro (by (try simp only [Int.toNat_natCast]); omega) ?_; conv => whnf)
    | (refine And.intro (show (_ : Bool) = true from by kernel_rfl) ?_; conv => whnf)
    | (refine .inl ⟨wrap64 (by omega), ?_⟩; conv => whnf)))
  · refine .inl ⟨show inR .i64 (((ls.take k).flatten.length : Int) + ((ls.getD k default).length : Int)) from wrap64 (by omega), ?_⟩
    conv => whnf
    repeat (any_goals (first
      | (refine ⟨fun (h : (_ : Bool) = true) => ?_, fun (h : (_ : Bool) = false) => ?_⟩ <;> (try simp only [decide_eq_true_eq, decide_eq_false_iff_not, Bool.not_eq_true', Bool.not_eq_false', Int.toNat_natCast, beq_iff_eq, decide_eq_decide, beq_eq_false_iff_ne, ne_eq, reduceCtorEq] at h) <;> (conv => whnf))
      | (refine And.intro (by (try simp only [Int.toNat_natCast]); omega) ?_; conv => whnf)
      | (refine And.intro (show (_ : Bool) = true from by kernel_rfl) ?_; conv => whnf)
      | (refine .inl ⟨wrap64 (by omega), ?_⟩; conv => whnf)))
    · exfalso; omega
    refine ⟨k + 1, [], ⟨by omega, trivial⟩, by omega, ?_⟩
    rw [flat_take (by omega), List.length_append]
    (repeat' (first | exact PSub.rfl | exact rfl | exact PSubs.rfl | exact trivial | refine And.intro ?_ ?_))
    all_goals exact PSub.int (show ((ls.take k).flatten.length : Int) + ((ls.getD k default).length : Int) = _ from by omega)
  clear hadd hkn
  refine loop_k (ι := Nat) [25, 26] [] (fun q => q ≤ ls.length ∧ True) (fun q => ls.length - q) 0 (fun q => [(6, .own 500), (27, .pv (vint q))]) (fun q => [(500, rowL 7 cItem (ls.take q).flatten)]) [(500, 24)] ⟨Nat.zero_le _, trivial⟩ ?_ (fun q hk => ?_)
  · (repeat' (first | exact PSub.rfl | exact rfl | exact PSubs.rfl | exact trivial | refine And.intro ?_ ?_))
    intro i hi
    exact absurd hi (by simp)
  obtain ⟨hkn, -⟩ := hk
  conv => whnf
  have hadd := flat_add (ls := ls) (k := q)
  repeat (any_goals (first
    | (refine ⟨fun (h : (_ : Bool) = true) => ?_, fun (h : (_ : Bool) = false) => ?_⟩ <;> (try simp only [decide_eq_true_eq, decide_eq_false_iff_not, Bool.not_eq_true', Bool.not_eq_false', Int.toNat_natCast, beq_iff_eq, decide_eq_decide, beq_eq_false_iff_ne, ne_eq, reduceCtorEq] at h) <;> (conv => whnf))
    | (refine And.intro (by (try simp only [Int.toNat_natCast]); omega) ?_; conv => whnf)
    | (refine And.intro (show (_ : Bool) = true from by kernel_rfl) ?_; conv => whnf)
    | (refine .inl ⟨wrap64 (by omega), ?_⟩; conv => whnf)))
  · refine ⟨q + 1, [(500, 33)], ⟨by omega, trivial⟩, by omega, ?_⟩
    rw [flat_take (by omega)]
    (repeat' (first | exact PSub.rfl | exact rfl | exact PSubs.rfl | exact trivial | refine And.intro ?_ ?_))
    · simp
    · intro i hi
      dsimp only
      by_cases hia : i < (ls.take q).flatten.length
      · rw [if_pos hia, show ((ls.take q).flatten ++ ls.getD q default).getD i default = (ls.take q).flatten.getD i default from by simp only [List.getD_eq_getElem?_getD]; rw [List.getElem?_append_left hia]]
        exact PSubs.rfl
      · rw [if_neg hia, show ((ls.take q).flatten ++ ls.getD q default).getD i default = (ls.getD q default).getD (i - (ls.take q).flatten.length) default from by simp only [List.getD_eq_getElem?_getD]; rw [List.getElem?_append_right (by omega)]]
        exact PSubs.rfl
  · rw [List.take_of_length_le (by omega)]
    exact ⟨rfl, fun i _ => PSubs.rfl⟩

end Go.Abs

namespace Go.Abs
open Go.Proofs
set_option maxRecDepth 10000

def chgB (a b : List Item) (k : Key) : Bool := !decide (decide (itemAt a k < a.length) = decide (itemAt b k < b.length)) || !decide ((getI a k).value = (getI b k).value)
/-- device.Changed -/
def chgL (a b : List Item) : List Key := sortK (((a ++ b).map Item.key).filter (chgB a b))
def chgTo (a b : List Item) (k : Nat) : List Key := sortK ((((a ++ b).take k).map Item.key).filter (chgB a b))

theorem chgTo_succ {a b : List Item} {k : Nat} (h : k < (a ++ b).length) : chgTo a b (k + 1) = if chgB a b ((a ++ b).getD k default).key = true then putK (chgTo a b k) ((a ++ b).getD k default).key else chgTo a b k := by
  unfold chgTo
  rw [take_succ_getD h, List.map_append, List.filter_append]
  by_cases c : chgB a b ((a ++ b).getD k default).key = true
  · rw [if_pos c]
    simp only [List.map_cons, List.map_nil, List.filter_cons, List.filter_nil, c, if_true]
    unfold sortK
    rw [List.foldl_append]; rfl
  · rw [if_neg c]
    simp only [List.map_cons, List.map_nil, List.filter_cons, List.filter_nil, if_neg c, List.append_nil]
theorem chgTo_length {a b : List Item} {k : Nat} : (chgTo a b k).length ≤ k := by
  unfold chgTo
  refine Nat.le_trans (sortK_length _) (Nat.le_trans (List.length_filter_le _ _) ?_)
  rw [List.length_map, List.length_take]; omega

theorem app_getD_l {α : Type} [Inhabited α] {a b : List α} {i : Nat} (h : i < a.length) : (a ++ b).getD i default = a.getD i default := by simp only [List.getD_eq_getElem?_getD]; rw [List.getElem?_append_left h]
theorem app_getD_r {α : Type} [Inhabited α] {a b : List α} {i : Nat} (h : ¬ i < a.length) : (a ++ b).getD i default = b.getD (i - a.length) default := by simp only [List.getD_eq_getElem?_getD]; rw [List.getElem?_append_right (by omega)]

theorem chg_ne {a b : List Item} {k : Key} (h : ¬ (itemAt a k < a.length ↔ itemAt b k < b.length)) : chgB a b k = true := by
  unfold chgB
  rw [decide_eq_false (fun e => h (decide_eq_decide.1 e))]; rfl
theorem chg_eq {a b : List Item} {k : Key} (h : itemAt a k < a.length ↔ itemAt b k < b.length) : chgB a b k = !decide ((getI a k).value = (getI b k).value) := by
  unfold chgB
  rw [decide_eq_true (decide_eq_decide.2 h)]; rfl

theorem ac_r22_Changed (a b : List Item) (ha : smallL a) (hb : smallL b) : AC Tryd.prog 8 [.pv (roL 7 cItem a), .pv (roL 7 cItem b)] [] (.pv (roL 3 cKey (chgL a b))) [] := by
  have ha2 : a.length ≤ 1048576 := ha
  have hb2 : b.length ≤ 1048576 := hb
  have hab : (a ++ b).length = a.length + b.length := List.length_append
  refine AC.of_awp (T := T) T_ok hm Tryd.call8 Tryd.func8 rfl rfl rfl ?_
  conv => whnf
  repeat (any_goals (first
    | (refine ⟨fun (h : (_ : Bool) = true) => ?_, fun (h : (_ : Bool) = false) => ?_⟩ <;> (try simp only [decide_eq_true_eq, decide_eq_false_iff_not, Bool.not_eq_true', Bool.not_eq_false', Int.toNat_natCast, beq_iff_eq, decide_eq_decide, beq_eq_false_iff_ne, ne_eq, reduceCtorEq] at h) <;> (conv => whnf))
    | (refine And.intro (by (try simp only [Int.toNat_natCast]); omega) ?_; conv => whnf)
    | (refine And.intro (show (_ : Bool) = true from by kernel_rfl) ?_; conv => whnf)
    | (refine .inl ⟨wrap64 (by omega), ?_⟩; conv => whnf)))
  refine loop_k (ι := Nat) [0, 1] [] (fun k => k ≤ (a ++ b).length ∧ True) (fun k => (a ++ b).length - k) 0 (fun k => [(5, .pv (roL 3 cKey (chgTo a b k))), (6, .own 500), (7, .pv (vint k))]) (fun k => [(500, rowL 7 cItem (a ++ b))]) [(500, 16)] ⟨Nat.zero_le _, trivial⟩ ?_ (fun k hk => ?_)
  · (repeat' (first | exact PSub.rfl | exact rfl | exact PSubs.rfl | exact trivial | refine And.intro ?_ ?_))
    · omega
    · intro i hi
      dsimp only
      by_cases hia : i < a.length
      · rw [if_pos (by omega), if_neg (by omega), app_getD_l hia]
        exact PSubs.rfl
      · rw [if_neg (by omega), app_getD_r hia, Nat.zero_add]
        exact PSubs.rfl
    · exact PSub.nilL rfl
  obtain ⟨hkn, -⟩ := hk
  conv => whnf
  have hlen := chgTo_length (a := a) (b := b) (k := k)
  repeat (any_goals (first
    | (refine ⟨fun (h : (_ : Bool) = true) => ?_, fun (h : (_ : Bool) = false) => ?_⟩ <;> (try simp only [decide_eq_true_eq, decide_eq_false_iff_not, Bool.not_eq_true', Bool.not_eq_false', Int.toNat_natCast, beq_iff_eq, decide_eq_decide, beq_eq_false_iff_ne, ne_eq, reduceCtorEq] at h) <;> (conv => whnf))
    | (refine .inl ⟨_, ac_r22_Get a ((a ++ b).getD k default).key ha, ?_⟩; conv => whnf)
    | (refine .inl ⟨_, ac_r22_Get b ((a ++ b).getD k default).key hb, ?_⟩; conv => whnf)
    | (refine .inl ⟨_, ac_r22_Put (chgTo a b k) ((a ++ b).getD k default).key (by omega), ?_⟩; conv => whnf)
    | (refine And.intro (by (try simp only [Int.toNat_natCast]); omega) ?_; conv => whnf)
    | (refine And.intro (show (_ : Bool) = true from by kernel_rfl) ?_; conv => whnf)
    | (refine .inl ⟨wrap64 (by omega), ?_⟩; conv => whnf)))
  · refine ⟨k + 1, [], ⟨by omega, trivial⟩, by omega, ?_⟩
    rw [chgTo_succ (by omega), if_pos (chg_ne h)]
    (repeat' (first | exact PSub.rfl | exact rfl | exact PSubs.rfl | exact trivial | refine And.intro ?_ ?_))
    intro i hi; exact PSubs.rfl
  · rename_i he
    rw [val_eq] at h
    refine ⟨k + 1, [], ⟨by omega, trivial⟩, by omega, ?_⟩
    rw [chgTo_succ (by omega), if_pos (by rw [chg_eq he, h]; rfl)]
    (repeat' (first | exact PSub.rfl | exact rfl | exact PSubs.rfl | exact trivial | refine And.intro ?_ ?_))
    intro i hi; exact PSubs.rfl
  · rename_i he
    rw [val_eq] at h
    refine ⟨k + 1, [], ⟨by omega, trivial⟩, by omega, ?_⟩
    rw [chgTo_succ (by omega), if_neg (by rw [chg_eq he, h]; decide)]
    (repeat' (first | exact PSub.rfl | exact rfl | exact PSubs.rfl | exact trivial | refine And.intro ?_ ?_))
    intro i hi; exact PSubs.rfl
  · rw [chgL, chgTo, List.take_of_length_le (by omega)]
    exact .rfl

/-! each key once -/
def uniqK (ks : List Key) : List Key := ks.foldl (fun acc k => if k ∈ acc then acc else acc ++ [k]) []
theorem uniqK_snoc {ks : List Key} {k : Key} : uniqK (ks ++ [k]) = if k ∈ uniqK ks then uniqK ks else uniqK ks ++ [k] := by
  unfold uniqK; rw [List.foldl_append]; rfl
theorem uniqK_spec (ks : List Key) : ∀ n, n ≤ ks.length → (uniqK (ks.take n)).Nodup ∧ ∀ x, x ∈ uniqK (ks.take n) ↔ x ∈ ks.take n := by
  intro n
  induction n with
  | zero => intro _; exact ⟨List.nodup_nil, fun x => by simp [uniqK]⟩
  | succ n ih =>
    intro hn
    obtain ⟨h1, h2⟩ := ih (by omega)
    rw [take_succ_getD (by omega), uniqK_snoc]
    split
    · rename_i hm
      refine ⟨h1, fun x => ?_⟩
      rw [List.mem_append, h2, List.mem_singleton]
      exact ⟨.inl, fun h => h.elim id fun e => e ▸ (h2 _).1 hm⟩
    · rename_i hm
      refine ⟨List.nodup_append.2 ⟨h1, by simp, fun x hx y hy e => hm ?_⟩, fun x => ?_⟩
      · rw [List.mem_singleton] at hy; rw [← hy, ← e]; exact hx
      · rw [List.mem_append, List.mem_append, h2]

theorem uniqK_length (ks : List Key) : ∀ n, n ≤ ks.length → (uniqK (ks.take n)).length ≤ n := by
  intro n
  induction n with
  | zero => intro _; exact Nat.le_refl 0
  | succ n ih =>
    intro hn
    have := ih (by omega)
    rw [take_succ_getD (by omega), uniqK_snoc]
    split
    · omega
    · rw [List.length_append, List.length_singleton]; omega

/-- what device.Changed has put out after k items -/
def outTo (a b : List Item) (k : Nat) : List Key := (uniqK (((a ++ b).map Item.key).take k)).filter (chgB a b)
theorem outTo_length {a b : List Item} {k : Nat} (hk : k ≤ (a ++ b).length) : (outTo a b k).length ≤ k :=
  Nat.le_trans (List.length_filter_le _ _) (uniqK_length _ k (by simpa using hk))

theorem key_getD {l : List Item} {k : Nat} (h : k < l.length) : (l.map Item.key).getD k default = (l.getD k default).key := by
  rw [getD_getElem _ _ (by simpa using h), getD_getElem _ _ h]; simp

def seenK (a b : List Item) (k : Nat) (q : Key) : Bool := decide (q ∈ ((a ++ b).map Item.key).take k)
theorem seenK_succ {a b : List Item} {k : Nat} {q : Key} (h : k < (a ++ b).length) : seenK a b (k + 1) q = (seenK a b k q || decide (q = ((a ++ b).getD k default).key)) := by
  unfold seenK
  rw [take_succ_getD (by simpa using h), key_getD h, Bool.eq_iff_iff]
  simp [-List.getD_eq_getElem?_getD]

theorem outTo_succ {a b : List Item} {k : Nat} (h : k < (a ++ b).length) : outTo a b (k + 1) = if seenK a b k ((a ++ b).getD k default).key = true then outTo a b k else if chgB a b ((a ++ b).getD k default).key = true then outTo a b k ++ [((a ++ b).getD k default).key] else outTo a b k := by
  unfold outTo seenK
  rw [take_succ_getD (by simpa using h), key_getD h, uniqK_snoc]
  have hm := (uniqK_spec ((a ++ b).map Item.key) k (by simpa using Nat.le_of_lt h)).2 ((a ++ b).getD k default).key
  by_cases c : ((a ++ b).getD k default).key ∈ ((a ++ b).map Item.key).take k
  · rw [if_pos (hm.2 c), if_pos (decide_eq_true c)]
  · rw [if_neg (fun x => c (hm.1 x)), if_neg (by simpa [-List.getD_eq_getElem?_getD] using c), List.filter_append]
    by_cases d : chgB a b ((a ++ b).getD k default).key = true
    · rw [if_pos d]; simp only [List.filter_cons, List.filter_nil, d, if_true]
    · rw [if_neg d]; simp only [List.filter_cons, List.filter_nil, if_neg d, List.append_nil]

theorem out_sorted {a b : List Item} : sortedK (outTo a b (a ++ b).length) = chgL a b := by
  have hs := uniqK_spec ((a ++ b).map Item.key) (a ++ b).length (by simp)
  unfold outTo chgL
  rw [sortedK_asc (List.Pairwise.filter _ hs.1)]
  refine sortK_congr fun x => ?_
  rw [List.mem_filter, List.mem_filter, hs.2]
  rw [List.take_of_length_le (by simp)]

def seenLook (f : Key → Bool) : Value → Option PV := fun v => if f (kOf v) = true then some (.val (.bool true)) else none
theorem seenLook_key (f : Key → Bool) (q : Key) : seenLook f (.agg ⟨vKey q⟩) = if f q = true then some (.val (.bool true)) else none := rfl

theorem ac_device_Changed (a b : List Item) (ha : smallL a) (hb : smallL b) : AC Tryd.prog 6 [.pv (roL 7 cItem a), .pv (roL 7 cItem b)] [] (.pv (roL 3 cKey (chgL a b))) [] := by
  have ha2 : a.length ≤ 1048576 := ha
  have hb2 : b.length ≤ 1048576 := hb
  have hab : (a ++ b).length = a.length + b.length := List.length_append
  have hfl : [a, b].flatten = a ++ b := by simp
  have hc := ac_slices_Concat_Item [a, b] (sl rfl) (by rw [hfl]; omega)
  rw [hfl] at hc
  refine AC.of_awp (T := T) T_ok hm Tryd.call6 Tryd.func6 rfl rfl rfl ?_
  conv => whnf
  repeat (any_goals (first
    | (refine ⟨fun (h : (_ : Bool) = true) => ?_, fun (h : (_ : Bool) = false) => ?_⟩ <;> (try simp only [decide_eq_true_eq, decide_eq_false_iff_not, Bool.not_eq_true', Bool.not_eq_false', Int.toNat_natCast, beq_iff_eq, decide_eq_decide, beq_eq_false_iff_ne, ne_eq, reduceCtorEq] at h) <;> (conv => whnf))
    | (refine And.intro (by (try simp only [Int.toNat_natCast]); omega) ?_; conv => whnf)
    | (refine And.intro (show (_ : Bool) = true from by kernel_rfl) ?_; conv => whnf)
    | (refine .inl ⟨wrap64 (by omega), ?_⟩; conv => whnf)))
  refine .inr (.inl ⟨_, _, _, AC.sub1 hc (by repeat' (first | exact PSub.rfl | exact trivial | exact all_lt_zero | refine PSub.ro rfl ?_ | refine all_lt_succ ?_ ?_ | refine And.intro ?_ ?_)), ?_⟩)
  conv => whnf
  refine loop_k (ι := Nat) [0, 1, 5, 17, 18] [17] (fun k => k ≤ (a ++ b).length ∧ True) (fun k => (a ++ b).length - k) 0 (fun k => [(6, .own 500), (19, .pv (vint k))]) (fun k => [(500, rowL 3 cKey (outTo a b k)), (13, .map KKey (seenLook (seenK a b k)))]) [] ⟨Nat.zero_le _, trivial⟩ ?_ (fun k hk => ?_)
  · (repeat' (first | exact PSub.rfl | exact rfl | exact PSubs.rfl | exact trivial | refine And.intro ?_ ?_)); all_goals (first | (intro v hv; obtain ⟨q, rfl⟩ := has_key hv; rw [seenLook_key, if_neg (by simp [seenK])]; done) | (intro i hi; exact PSubs.rfl))
  obtain ⟨hkn, hinv⟩ := hk
  conv => whnf
  have hlen := outTo_length (a := a) (b := b) (k := k) (by omega)
  repeat (any_goals (first
    | (refine ⟨fun (h : (_ : Bool) = true) => ?_, fun (h : (_ : Bool) = false) => ?_⟩ <;> (try simp only [decide_eq_true_eq, decide_eq_false_iff_not, Bool.not_eq_true', Bool.not_eq_false', Int.toNat_natCast, beq_iff_eq, decide_eq_decide, beq_eq_false_iff_ne, ne_eq, reduceCtorEq] at h) <;> (conv => whnf))
    | (refine And.intro (by (try simp only [Int.toNat_natCast]); omega) ?_; conv => whnf)
    | (refine And.intro (show (_ : Bool) = true from by kernel_rfl) ?_; conv => whnf)
    | (refine .inl ⟨wrap64 (by omega), ?_⟩; conv => whnf)))
  · have hk : k < (a ++ b).length := by omega
    refine ⟨fun p hp => ?_, fun hp => ?_⟩
    · change seenLook (seenK a b k) (.agg ⟨vKey ((a ++ b).getD k default).key⟩) = some p at hp
      rw [seenLook_key] at hp
      by_cases hs : seenK a b k ((a ++ b).getD k default).key = true
      · rw [if_pos hs] at hp; cases hp
        conv => whnf
        repeat (any_goals (first
          | (refine ⟨fun (h : (_ : Bool) = true) => ?_, fun (h : (_ : Bool) = false) => ?_⟩ <;> (try simp only [decide_eq_true_eq, decide_eq_false_iff_not, Bool.not_eq_true', Bool.not_eq_false', Int.toNat_natCast, beq_iff_eq, decide_eq_decide, beq_eq_false_iff_ne, ne_eq, reduceCtorEq] at h) <;> (conv => whnf))
          | (refine And.intro (by (try simp only [Int.toNat_natCast]); omega) ?_; conv => whnf)
          | (refine And.intro (show (_ : Bool) = true from by kernel_rfl) ?_; conv => whnf)
          | (refine .inl ⟨wrap64 (by omega), ?_⟩; conv => whnf)))
        refine ⟨k + 1, [], ⟨by omega, trivial⟩, by omega, ?_⟩
        rw [outTo_succ hk, if_pos hs]
        have hmap : ∀ v, KKey.has v → seenLook (seenK a b k) v = seenLook (seenK a b (k + 1)) v := by
          intro v hv
          obtain ⟨q, rfl⟩ := has_key hv
          rw [seenLook_key, seenLook_key, seenK_succ hk]
          by_cases e : q = ((a ++ b).getD k default).key
          · subst e; rw [hs]; rfl
          · rw [decide_eq_false e, Bool.or_false]
        (repeat' (first | exact PSub.rfl | exact rfl | exact PSubs.rfl | exact trivial | refine And.intro ?_ ?_))
        all_goals first | exact hmap | (intro i hi; exact PSubs.rfl)
      · rw [if_neg hs] at hp; cases hp
    · change seenLook (seenK a b k) (.agg ⟨vKey ((a ++ b).getD k default).key⟩) = none at hp
      rw [seenLook_key] at hp
      have hs : ¬ seenK a b k ((a ++ b).getD k default).key = true := fun h => by rw [if_pos h] at hp; cases hp
      have hmap : ∀ v, KKey.has v → lookPut (seenLook (seenK a b k)) (.agg ⟨vKey ((a ++ b).getD k default).key⟩) (.val (.bool true)) v = seenLook (seenK a b (k + 1)) v := by
        intro v hv
        obtain ⟨q, rfl⟩ := has_key hv
        rw [seenLook_key, seenK_succ hk]
        by_cases e : q = ((a ++ b).getD k default).key
        · rw [decide_eq_true e, Bool.or_true, if_pos rfl, e]
          exact lookPut_yes rfl
        · rw [decide_eq_false e, Bool.or_false]
          exact lookPut_no (fun h => e (vKey_inj.1 h))
      conv => whnf
      repeat (any_goals (first
        | (refine ⟨fun (h : (_ : Bool) = true) => ?_, fun (h : (_ : Bool) = false) => ?_⟩ <;> (try simp only [decide_eq_true_eq, decide_eq_false_iff_not, Bool.not_eq_true', Bool.not_eq_false', Int.toNat_natCast, beq_iff_eq, decide_eq_decide, beq_eq_false_iff_ne, ne_eq, reduceCtorEq] at h) <;> (conv => whnf))
        | (refine .inl ⟨_, ac_device_Get a ((a ++ b).getD k default).key ha, ?_⟩; conv => whnf)
        | (refine .inl ⟨_, ac_device_Get b ((a ++ b).getD k default).key hb, ?_⟩; conv => whnf)
        | (refine And.intro (by (try simp only [Int.toNat_natCast]); omega) ?_; conv => whnf)
        | (refine And.intro (show (_ : Bool) = true from by kernel_rfl) ?_; conv => whnf)
        | (refine .inl ⟨wrap64 (by omega), ?_⟩; conv => whnf)))
      · refine ⟨k + 1, [(500, 58)], ⟨by omega, trivial⟩, by omega, ?_⟩
        rw [outTo_succ hk, if_neg hs, if_pos (chg_ne h)]
        (repeat' (first | exact PSub.rfl | exact rfl | exact PSubs.rfl | exact trivial | refine And.intro ?_ ?_))
        · simp
        · refine rows_snocF (fun i hi => by simp only [if_pos hi]; exact PSubs.rfl) (by simp only [if_neg (Nat.lt_irrefl _), Nat.sub_self]; exact PSubs.rfl)
        all_goals first | exact hmap | (intro i hi; exact PSubs.rfl)
      · rename_i he
        rw [val_eq] at h
        refine ⟨k + 1, [(500, 58)], ⟨by omega, trivial⟩, by omega, ?_⟩
        rw [outTo_succ hk, if_neg hs, if_pos (by rw [chg_eq he, h]; rfl)]
        (repeat' (first | exact PSub.rfl | exact rfl | exact PSubs.rfl | exact trivial | refine And.intro ?_ ?_))
        · simp
        · refine rows_snocF (fun i hi => by simp only [if_pos hi]; exact PSubs.rfl) (by simp only [if_neg (Nat.lt_irrefl _), Nat.sub_self]; exact PSubs.rfl)
        all_goals first | exact hmap | (intro i hi; exact PSubs.rfl)
      · rename_i he
        rw [val_eq] at h
        refine ⟨k + 1, [], ⟨by omega, trivial⟩, by omega, ?_⟩
        rw [outTo_succ hk, if_neg hs, if_neg (by rw [chg_eq he, h]; decide)]
        (repeat' (first | exact PSub.rfl | exact rfl | exact PSubs.rfl | exact trivial | refine And.intro ?_ ?_))
        all_goals first | exact hmap | (intro i hi; exact PSubs.rfl)
  · have e : k = (a ++ b).length := by omega
    subst e
    refine .inr (.inr (.inl ⟨_, _, ac_slices_SortFunc_Key 19 ac_device_Changed_1 (outTo a b (a ++ b).length) (by omega), ?_⟩))
    conv => whnf
    rw [out_sorted]
    exact .rfl

end Go.Abs

namespace Go.Abs
open Go.Proofs
set_option maxRecDepth 10000

theorem chgB_symm (a b : List Item) (k : Key) : chgB a b k = chgB b a k := by
  unfold chgB
  congr 1
  · congr 1; rw [decide_eq_decide]; exact eq_comm
  · congr 1; rw [decide_eq_decide]; exact eq_comm
theorem chg_symm (a b : List Item) : chgL b a = chgL a b := by
  unfold chgL
  refine sortK_congr fun x => ?_
  rw [List.mem_filter, List.mem_filter, chgB_symm, List.map_append, List.map_append, List.mem_append, List.mem_append]
  exact and_congr_left fun _ => or_comm
theorem chg_self (a : List Item) : chgL a a = [] := by
  unfold chgL
  have : ((a ++ a).map Item.key).filter (chgB a a) = [] := by
    rw [List.filter_eq_nil_iff]
    intro k _
    simp [chgB]
  rw [this]; rfl
theorem chgL_length {a b : List Item} : (chgL a b).length ≤ a.length + b.length := by
  unfold chgL
  refine Nat.le_trans (sortK_length _) (Nat.le_trans (List.length_filter_le _ _) ?_)
  simp

theorem ac_law22_DeviceChanges (a b : List Item) (ha : smallL a) (hb : smallL b) : AC Tryd.prog 3 [.pv (roL 7 cItem a), .pv (roL 7 cItem b)] [] (.pv (vbool true)) [] := by
  have ha2 : a.length ≤ 1048576 := ha
  have hb2 : b.length ≤ 1048576 := hb
  have hcl := chgL_length (a := a) (b := b)
  have c2 := ac_device_Changed b a hb ha
  rw [chg_symm] at c2
  have c3 := ac_device_Changed a a ha ha
  rw [chg_self] at c3
  refine AC.of_awp (T := T) T_ok hm Tryd.call3 Tryd.func3 rfl rfl rfl ?_
  conv => whnf
  repeat (any_goals (first
    | (refine ⟨fun (h : (_ : Bool) = true) => ?_, fun (h : (_ : Bool) = false) => ?_⟩ <;> (try simp only [decide_eq_true_eq, decide_eq_false_iff_not, Bool.not_eq_true', Bool.not_eq_false', Int.toNat_natCast, beq_iff_eq, decide_eq_decide, beq_eq_false_iff_ne, ne_eq, reduceCtorEq] at h) <;> (conv => whnf))
    | (refine .inl ⟨_, ac_law22_lives, ?_⟩; conv => whnf)
    | (refine .inl ⟨_, ac_device_Changed a b ha hb, ?_⟩; conv => whnf)
    | (refine .inl ⟨_, ac_r22_Changed a b ha hb, ?_⟩; conv => whnf)
    | (refine .inl ⟨_, c2, ?_⟩; conv => whnf)
    | (refine .inl ⟨_, c3, ?_⟩; conv => whnf)
    | (refine .inl ⟨_, ac_r22_SameKeys (chgL a b) (chgL a b) (by omega), ?_⟩; conv => whnf)
    | (refine And.intro (by (try simp only [Int.toNat_natCast]); omega) ?_; conv => whnf)
    | (refine And.intro (show (_ : Bool) = true from by kernel_rfl) ?_; conv => whnf)
    | (refine .inl ⟨wrap64 (by omega), ?_⟩; conv => whnf)))
  all_goals first
    | exact .rfl
    | exact absurd trivial h
    | exact absurd rfl h
    | exact PSub.sb (by simp)
    | trace_state

end Go.Abs

namespace Go.Abs
open Go.Proofs
set_option maxRecDepth 10000

theorem set_at {H : Hom} {l : List Item} {k : Key} {v : Val} {w : Bool} (h : setE H l k v w = 0) : itemAt l k < l.length ∧ setL H l k v w = putL l (itemAt l k) v := by
  refine ⟨?_, by rw [setL, if_pos h]⟩
  unfold setE at h
  split at h
  · contradiction
  split at h
  · cases h
  split at h
  · cases h
  rename_i h3
  exact (ixI_nonneg h3).1

theorem put_same {l : List Item} {i : Nat} {v : Val} (h : (l.getD i default).value = v) : putL l i v = l := by rw [putL, if_neg (by simpa using h)]
theorem set_getD' {l : List Item} {i j : Nat} {x : Item} (hi : i < l.length) : (l.set i x).getD j default = if j = i then x else l.getD j default := by
  by_cases e : j = i
  · subst e; simp [List.getD, hi]
  · rw [if_neg e]; simp [List.getD, List.getElem?_set_ne (Ne.symm e)]
theorem put_getD {l : List Item} {i j : Nat} {v : Val} (hi : i < l.length) (h : (l.getD i default).value ≠ v) : (putL l i v).getD j default = if j = i then ⟨(l.getD i default).key, v, nextV l (l.getD i default).key.dev⟩ else l.getD j default := by
  rw [putL, if_pos h, set_getD' hi]
theorem put_key {l : List Item} {i j : Nat} {v : Val} (hi : i < l.length) : ((putL l i v).getD j default).key = (l.getD j default).key := by
  by_cases h : (l.getD i default).value = v
  · rw [put_same h]
  · rw [put_getD hi h]
    split
    · rename_i e; rw [e]
    · rfl
theorem put_at {l : List Item} {i : Nat} {v : Val} (hi : i < l.length) (q : Key) : itemAt (putL l i v) q = itemAt l q := by
  unfold itemAt; rw [putL_length]; congr 1; funext j; rw [put_key hi]
theorem put_get {l : List Item} {k : Key} {v : Val} (hi : itemAt l k < l.length) : (getI (putL l (itemAt l k) v) k).value = v := by
  unfold getI
  rw [put_at hi, putL_length, if_pos hi]
  by_cases h : (l.getD (itemAt l k) default).value = v
  · rw [put_same h]; exact h
  · rw [put_getD hi h, if_pos rfl]

/-- one key -/
theorem sortK_one {ks : List Key} {k : Key} (h : ∀ x, x ∈ ks ↔ x = k) : sortK ks = [k] := by
  rw [sortK_congr (k := [k]) (fun x => by rw [h, List.mem_singleton])]; rfl

theorem chg_put {l : List Item} {k : Key} {v : Val} (hi : itemAt l k < l.length) (h : (getI l k).value ≠ v) : chgL l (putL l (itemAt l k) v) = [k] := by
  have hb : ∀ x, chgB l (putL l (itemAt l k) v) x = true ↔ x = k := by
    intro x
    rw [chg_eq (by rw [put_at hi, putL_length])]
    constructor
    · intro hx
      have hne : (getI l x).value ≠ (getI (putL l (itemAt l k) v) x).value := by simpa using hx
      by_cases e : x = k
      · exact e
      · exfalso
        apply hne
        unfold getI
        rw [put_at hi, putL_length]
        split
        · rename_i hx2
          by_cases h2 : (l.getD (itemAt l k) default).value = v
          · rw [put_same h2]
          · rw [put_getD hi h2, if_neg]
            intro e2
            have h3 := itemAt_key hx2
            rw [e2, itemAt_key hi] at h3
            exact e h3.symm
        · rfl
    · rintro rfl
      rw [put_get hi, decide_eq_false h]; rfl
  unfold chgL
  refine sortK_one fun x => ?_
  rw [List.mem_filter, hb]
  constructor
  · exact fun h => h.2
  · rintro rfl
    refine ⟨?_, rfl⟩
    rw [List.map_append, List.mem_append]
    exact .inl (List.mem_map.2 ⟨_, (getD_getElem l default hi ▸ List.getElem_mem hi), itemAt_key hi⟩)

/-- how many items differ, up to n -/
def difN (l : List Item) (k : Key) (v : Val) (n : Nat) : Nat := if (getI l k).value ≠ v ∧ itemAt l k < n then 1 else 0
theorem dif_at {l : List Item} {k : Key} {v : Val} (hi : itemAt l k < l.length) (n : Nat) : difN l k v (n + 1) = if (putL l (itemAt l k) v).getD n default = l.getD n default then difN l k v n else difN l k v n + 1 := by
  have hg : getI l k = l.getD (itemAt l k) default := by rw [getI, if_pos hi]
  unfold difN
  by_cases h : (getI l k).value = v
  · rw [hg] at h
    rw [put_same h, if_pos rfl, hg, if_neg (fun x => x.1 h), if_neg (fun x => x.1 h)]
  · have h2 : (l.getD (itemAt l k) default).value ≠ v := by rw [← hg]; exact h
    rw [put_getD hi h2]
    by_cases e : n = itemAt l k
    · rw [if_pos ⟨h, by omega⟩, if_pos e, if_neg, if_neg (by omega)]
      intro e2
      apply h2
      have := congrArg Item.value e2
      simp only at this
      rw [e] at this
      exact this.symm
    · rw [if_neg e, if_pos rfl]
      by_cases c : itemAt l k < n
      · rw [if_pos ⟨h, by omega⟩, if_pos ⟨h, c⟩]
      · rw [if_neg (fun x => by omega), if_neg (fun x => by omega)]

end Go.Abs

namespace Go.Abs
open Go.Proofs
set_option maxRecDepth 10000

set_option maxHeartbeats 1000000 in
theorem ac_law22_DeviceReads (x : Op) (hH : smallH x.H) (hl : smallL x.L) : AC Tryd.prog 4 [.pv (.agg (cOp x))] [] (.pv (vbool true)) [] := by
  obtain ⟨H, L, K, V⟩ := x
  simp only at hH hl
  have hl2 : L.length ≤ 1048576 := hl
  refine AC.of_awp (T := T) T_ok hm Tryd.call4 Tryd.func4 rfl rfl rfl ?_
  conv => whnf
  repeat (any_goals (first
    | (refine ⟨fun (h : (_ : Bool) = true) => ?_, fun (h : (_ : Bool) = false) => ?_⟩ <;> (try simp only [decide_eq_true_eq, decide_eq_false_iff_not, Bool.not_eq_true', Bool.not_eq_false', Int.toNat_natCast, beq_iff_eq, decide_eq_decide, beq_eq_false_iff_ne, ne_eq, reduceCtorEq] at h) <;> (conv => whnf))
    | (refine .inl ⟨_, ac_law22_great H, ?_⟩; conv => whnf)
    | (refine .inl ⟨_, ac_law22_lives, ?_⟩; conv => whnf)
    | (refine .inl ⟨_, ac_device_Set H L K V hH hl, ?_⟩; conv => whnf)
    | (refine And.intro (by (try simp only [Int.toNat_natCast]); omega) ?_; conv => whnf)
    | (refine And.intro (show (_ : Bool) = true from by kernel_rfl) ?_; conv => whnf)
    | (refine .inl ⟨wrap64 (by omega), ?_⟩; conv => whnf)))
  all_goals try first | exact .rfl | exact absurd trivial h | exact absurd rfl h
  · exfalso
    apply h
    rw [setL, if_neg ‹¬ setE H L K V false = 0›]; rfl
  obtain ⟨hi, hset⟩ := set_at h
  rw [hset]
  have hpl := putL_length (l := L) (i := itemAt L K) (v := V)
  have hps : smallL (putL L (itemAt L K) V) := by unfold smallL; omega
  have hpa := put_at (v := V) hi K
  have hpg := put_get (v := V) hi
  have hd := dif_at (v := V) hi
  have hcs : (getI L K).value = V → chgL L (putL L (itemAt L K) V) = [] := fun e => by
    rw [put_same (by rw [getI, if_pos hi] at e; exact e)]; exact chg_self L
  have hcn : (getI L K).value ≠ V → chgL L (putL L (itemAt L K) V) = [K] := fun e => chg_put hi e
  generalize putL L (itemAt L K) V = P at *
  repeat (any_goals (first
    | (refine ⟨fun (h : (_ : Bool) = true) => ?_, fun (h : (_ : Bool) = false) => ?_⟩ <;> (try simp only [decide_eq_true_eq, decide_eq_false_iff_not, Bool.not_eq_true', Bool.not_eq_false', Int.toNat_natCast, beq_iff_eq, decide_eq_decide, beq_eq_false_iff_ne, ne_eq, reduceCtorEq] at h) <;> (conv => whnf))
    | (refine .inl ⟨_, ac_r22_Get L K hl, ?_⟩; conv => whnf)
    | (refine .inl ⟨_, ac_device_Get P K hps, ?_⟩; conv => whnf)
    | (refine And.intro (by (try simp only [Int.toNat_natCast]); omega) ?_; conv => whnf)
    | (refine And.intro (show (_ : Bool) = true from by kernel_rfl) ?_; conv => whnf)
    | (refine .inl ⟨wrap64 (by omega), ?_⟩; conv => whnf)))
  · exfalso; rw [hpa, hpl] at h; exact h hi
  · exfalso
    have h2 : decide ((getI P K).value = V) = false := (val_eq _ _).symm.trans h
    rw [hpg] at h2; simp at h2
  · exfalso; omega
  have hd0 : difN L K V 0 = 0 := by unfold difN; rw [if_neg (fun x => by omega)]
  have hdl : ∀ n, difN L K V n ≤ 1 := fun n => by unfold difN; split <;> omega
  refine loop_k (ι := Nat) [1, 3, 5] [1, 5] (fun k => k ≤ P.length ∧ True) (fun k => P.length - k) 0 (fun k => [(9, .pv (vint (difN L K V k))), (10, .pv (vint k))]) (fun k => []) [] ⟨Nat.zero_le _, trivial⟩ ?_ (fun k hk => ?_)
  · (repeat' (first | exact PSub.rfl | exact rfl | exact PSubs.rfl | exact trivial | refine And.intro ?_ ?_)); all_goals (exact PSub.int (by rw [hd0]; rfl))
  obtain ⟨hkn, hinv⟩ := hk
  conv => whnf
  have hdk := hdl k
  have hdn := hd k
  repeat (any_goals (first
    | (refine ⟨fun (h : (_ : Bool) = true) => ?_, fun (h : (_ : Bool) = false) => ?_⟩ <;> (try simp only [decide_eq_true_eq, decide_eq_false_iff_not, Bool.not_eq_true', Bool.not_eq_false', Int.toNat_natCast, beq_iff_eq, decide_eq_decide, beq_eq_false_iff_ne, ne_eq, reduceCtorEq] at h) <;> (conv => whnf))
    | (refine And.intro (by (try simp only [Int.toNat_natCast]); omega) ?_; conv => whnf)
    | (refine And.intro (show (_ : Bool) = true from by kernel_rfl) ?_; conv => whnf)
    | (refine .inl ⟨wrap64 (by omega), ?_⟩; conv => whnf)))
  · have h2 : decide (P.getD k default = L.getD k default) = false := (item_eq _ _).symm.trans h
    rw [if_neg (by simpa [-List.getD_eq_getElem?_getD] using h2)] at hdn
    refine ⟨k + 1, [], ⟨by omega, trivial⟩, by omega, ?_⟩
    (repeat' (first | exact PSub.rfl | exact rfl | exact PSubs.rfl | exact trivial | refine And.intro ?_ ?_))
    all_goals exact PSub.int (by rw [hdn]; rfl)
  · have h2 : decide (P.getD k default = L.getD k default) = true := (item_eq _ _).symm.trans h
    rw [if_pos (by simpa [-List.getD_eq_getElem?_getD] using h2)] at hdn
    refine ⟨k + 1, [], ⟨by omega, trivial⟩, by omega, ?_⟩
    (repeat' (first | exact PSub.rfl | exact rfl | exact PSubs.rfl | exact trivial | refine And.intro ?_ ?_))
    all_goals exact PSub.int (by rw [hdn])
  have hk : itemAt L K < k := by omega
  clear hdn
  have c := ac_device_Changed L P hl hps
  by_cases e : (getI L K).value = V
  · rw [hcs e] at c
    have hz : difN L K V k = 0 := by unfold difN; rw [if_neg (fun x => x.1 e)]
    rw [hz]
    refine .inl ⟨_, c, ?_⟩
    conv => whnf
    refine ⟨fun h => ?_, fun h => ?_⟩ <;> (try simp only [decide_eq_true_eq, decide_eq_false_iff_not, Bool.not_eq_true', Bool.not_eq_false', Int.toNat_natCast, beq_iff_eq, decide_eq_decide, beq_eq_false_iff_ne, ne_eq, reduceCtorEq] at h) <;> (conv => whnf)
    · clear h
      repeat (any_goals (first
        | (refine ⟨fun (h : (_ : Bool) = true) => ?_, fun (h : (_ : Bool) = false) => ?_⟩ <;> (try simp only [decide_eq_true_eq, decide_eq_false_iff_not, Bool.not_eq_true', Bool.not_eq_false', Int.toNat_natCast, beq_iff_eq, decide_eq_decide, beq_eq_false_iff_ne, ne_eq, reduceCtorEq] at h) <;> (conv => whnf))
        | (refine .inl ⟨_, ac_law22_lives, ?_⟩; conv => whnf)
        | (refine And.intro (by (try simp only [Int.toNat_natCast]); omega) ?_; conv => whnf)
        | (refine And.intro (show (_ : Bool) = true from by kernel_rfl) ?_; conv => whnf)
        | (refine .inl ⟨wrap64 (by omega), ?_⟩; conv => whnf)))
      all_goals first
        | exact .rfl
        | exact absurd rfl h
        | exact absurd trivial h
        | trace_state
    · exfalso
      have h2 : decide ((getI L K).value = V) = false := (val_eq _ _).symm.trans h
      rw [e] at h2; simp at h2
  · rw [hcn e] at c
    have hz : difN L K V k = 1 := by unfold difN; rw [if_pos ⟨e, hk⟩]
    rw [hz]
    refine .inl ⟨_, c, ?_⟩
    conv => whnf
    refine ⟨fun h => ?_, fun h => ?_⟩ <;> (try simp only [decide_eq_true_eq, decide_eq_false_iff_not, Bool.not_eq_true', Bool.not_eq_false', Int.toNat_natCast, beq_iff_eq, decide_eq_decide, beq_eq_false_iff_ne, ne_eq, reduceCtorEq] at h) <;> (conv => whnf)
    · exfalso
      have h2 : decide ((getI L K).value = V) = true := (val_eq _ _).symm.trans h
      exact e (by simpa using h2)
    · clear h
      repeat (any_goals (first
        | (refine ⟨fun (h : (_ : Bool) = true) => ?_, fun (h : (_ : Bool) = false) => ?_⟩ <;> (try simp only [decide_eq_true_eq, decide_eq_false_iff_not, Bool.not_eq_true', Bool.not_eq_false', Int.toNat_natCast, beq_iff_eq, decide_eq_decide, beq_eq_false_iff_ne, ne_eq, reduceCtorEq] at h) <;> (conv => whnf))
        | (refine .inl ⟨_, ac_law22_lives, ?_⟩; conv => whnf)
        | (refine And.intro (by (try simp only [Int.toNat_natCast]); omega) ?_; conv => whnf)
        | (refine And.intro (show (_ : Bool) = true from by kernel_rfl) ?_; conv => whnf)
        | (refine .inl ⟨wrap64 (by omega), ?_⟩; conv => whnf)))
      all_goals try first
        | exact .rfl
        | exact absurd rfl h
        | exact absurd trivial h
      exfalso
      have h2 : decide (K = K) = false := (key_eq K K).symm.trans h
      simp at h2

end Go.Abs
