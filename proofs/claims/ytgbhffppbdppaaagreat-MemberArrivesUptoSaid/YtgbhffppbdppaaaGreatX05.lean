/- YtgbhffppbdppaaaGreatX05: walks and contracts. -/
import Derived.Test.YtgbhffppbdppaaaGreatX04
import Derived.Shelf.SlSortCmp.Insertion
import Derived.Shelf.SlSortCmp.NoneTotal
import Derived.Test.YtgbhffppbdppaaaGreatProg

set_option linter.unusedVariables false
set_option linter.unusedSimpArgs false
set_option linter.unusedSectionVars false

namespace Go.Abs
variable [Globals]
inductive Ex where
  | mk (kind n m : Int) (name : ByteArray) (value : Val) (key : Key) (kids : List Ex)
namespace Ex
def kind : Ex → Int | mk k _ _ _ _ _ _ => k
def n : Ex → Int | mk _ n _ _ _ _ _ => n
def m : Ex → Int | mk _ _ m _ _ _ _ => m
def name : Ex → ByteArray | mk _ _ _ s _ _ _ => s
def value : Ex → Val | mk _ _ _ _ v _ _ => v
def key : Ex → Key | mk _ _ _ _ _ k _ => k
def kids : Ex → List Ex | mk _ _ _ _ _ _ l => l
end Ex
abbrev noKey : Key := ⟨0, ⟨#[]⟩, ⟨#[]⟩⟩
abbrev noEx : Ex := .mk 0 0 0 ⟨#[]⟩ ⟨0, 0, ⟨#[]⟩⟩ ⟨0, ⟨#[]⟩, ⟨#[]⟩⟩ []
instance : Inhabited Ex := ⟨noEx⟩
mutual
def encE : Ex → List PV
  | .mk k n m s v q l => [vint k, vint n, vint m, vstr s, vint v.kind, vint v.n, vstr v.s, vint q.dev, vstr q.cluster, vstr q.attr, .ro 11 l.length (encK l)]
/-- the cells of the kids -/
def encK : List Ex → Nat → List PV
  | [], _ => []
  | e :: _, 0 => encE e
  | _ :: l, i + 1 => encK l i
end
def cEx (e : Ex) : List PV := [vint e.kind, vint e.n, vint e.m, vstr e.name, vint e.value.kind, vint e.value.n, vstr e.value.s, vint e.key.dev, vstr e.key.cluster, vstr e.key.attr, .ro 11 e.kids.length (encK e.kids)]
theorem encE_eq (e : Ex) : encE e = cEx e := by cases e; rfl
theorem encK_eq : ∀ {l : List Ex} {i : Nat}, i < l.length → encK l i = cEx (l.getD i default)
  | e :: l, 0, _ => by rw [encK, encE_eq]; rfl
  | e :: l, i + 1, h => by
    rw [encK, encK_eq (l := l) (by simpa using h)]
    rfl
theorem PSub.kids {l : List Ex} : PSub (.ro 11 l.length (encK l)) (roL 11 cEx l) := PSub.ro (Eq.refl _) fun i hi => by rw [encK_eq hi]; exact PSubs.rfl
def cEx1 (e : Ex) : List PV := [vint e.kind, vint e.n, vint e.m, vstr e.name, vint e.value.kind, vint e.value.n, vstr e.value.s, vint e.key.dev, vstr e.key.cluster, vstr e.key.attr, roL 11 cEx e.kids]
theorem PSub.ex1 {e : Ex} : PSub (.agg (cEx e)) (.agg (cEx1 e)) := PSub.agg ⟨PSub.rfl, PSub.rfl, PSub.rfl, PSub.rfl, PSub.rfl, PSub.rfl, PSub.rfl, PSub.rfl, PSub.rfl, PSub.rfl, PSub.kids, trivial⟩
structure ASub (x y : AV) : Prop where
  to : ∀ (P : Program) (w : World) (St M : Nat → Prop) (σ : Sig) (v : Value), AR P w St M σ x v → AR P w St M σ y v
theorem ASub.rfl {x : AV} : ASub x x := ⟨fun _ _ _ _ _ _ h => h⟩
theorem ASub.pv {p q : PV} (h : PSub p q) : ASub (.pv p) (.pv q) := ⟨fun _ _ _ _ _ _ k => .pv _ _ (h.to _ _ _ (arg_pv k))⟩
def ASubs : List AV → List AV → Prop
  | [], [] => True
  | x :: xs, y :: ys => ASub x y ∧ ASubs xs ys
  | _, _ => False
theorem ASubs.get : ∀ {xs ys : List AV}, ASubs xs ys → xs.length = ys.length ∧ ∀ (i : Nat) (y : AV), ys[i]? = some y → ∃ x, xs[i]? = some x ∧ ASub x y
  | [], [], _ => ⟨Eq.refl _, fun i y e => by simp at e⟩
  | x :: xs, y :: ys, h => by
    obtain ⟨h1, h2⟩ := ASubs.get h.2
    refine ⟨by simp [h1], fun i z e => ?_⟩
    cases i with
    | zero => simp at e; subst e; exact ⟨x, by simp, h.1⟩
    | succ i => simpa using h2 i z (by simpa using e)
  | [], _ :: _, h => h.elim
  | _ :: _, [], h => h.elim
theorem AC.subA {P : Program} {f : FuncId} {xs ys : List AV} {os os' : Upd} {res : AV} (h : AC P f ys os res os') (hs : ASubs xs ys) : AC P f xs os res os' := by
  obtain ⟨h1, h2⟩ := hs.get
  refine ⟨h.1, fun St M0 σ w vals hi hn ho hl ha => h.2 St M0 σ w vals hi hn ho (by rw [hl, h1]) fun i y e => ?_⟩
  obtain ⟨x, hx, hxy⟩ := h2 i y e
  exact hxy.to _ _ _ _ _ _ (ha i x hx)
theorem AC.ex {P : Program} {f : FuncId} {e : Ex} {r : List AV} {os os' : Upd} {res : AV} (h : AC P f (.pv (.agg (cEx1 e)) :: r) os res os') : AC P f (.pv (.agg (cEx e)) :: r) os res os' := by
  have key : ∀ r : List AV, ASubs r r := fun r => by induction r with | nil => trivial | cons x r ih => exact ⟨ASub.rfl, ih⟩
  exact h.subA ⟨ASub.pv PSub.ex1, key r⟩
def kidsB (k n : Int) : Bool :=
  if k = 6 then decide (n = 1) else if k = 7 ∨ k = 8 then decide (2 ≤ n) && decide (n ≤ 8) else if 9 ≤ k ∧ k ≤ 13 then decide (n = 2) else if k = 14 then decide (n = 3) else decide (n = 0)
def spareB (e : Ex) : Bool :=
  decide (((e.kind ≠ 4 ∧ e.kind ≠ 5 ∧ e.kind ≠ 15) ∧ e.n ≠ 0) ∨ (e.kind ≠ 4 ∧ e.m ≠ 0) ∨ (e.kind ≠ 3 ∧ e.name ≠ ⟨#[]⟩) ∨ (e.kind ≠ 1 ∧ e.value ≠ noVal) ∨ (e.kind ≠ 2 ∧ e.key ≠ noKey))
def rangeB (e : Ex) : Bool :=
  if e.kind = 4 then decide (0 ≤ e.n ∧ e.n < 1440 ∧ 0 ≤ e.m ∧ e.m < 1440) else if e.kind = 5 then decide (1 ≤ e.n ∧ e.n ≤ 127) else if e.kind = 15 then decide (0 ≤ e.n ∧ e.n ≤ 4)
  else if e.kind = 2 then decide (1 ≤ e.key.dev ∧ e.key.dev ≤ 250) else true
def nodeE (e : Ex) : Int :=
  if e.kind < 1 ∨ 15 < e.kind then 7 else if kidsB e.kind e.kids.length = false ∨ spareB e = true then 1 else if rangeB e = false then 2
  else if e.kind = 3 then (if validName e.name then 0 else 10)
  else if e.kind = 2 then (if validName e.key.cluster && validName e.key.attr then 0 else 10)
  else if e.kind = 1 then (if valE e.value ≠ 0 then valE e.value else if e.value.kind = 0 then 7 else 0)
  else 0
theorem drop_getD {α : Type} [Inhabited α] {l : List α} {k : Nat} (h : k < l.length) : l.drop k = l.getD k default :: l.drop (k + 1) := by
  rw [List.drop_eq_getElem_cons h]; simp [List.getD, h]
mutual
def sizeE : Ex → Nat
  | .mk _ _ _ _ _ _ ks => 1 + sizeL ks
def sizeL : List Ex → Nat
  | [] => 0
  | e :: es => sizeE e + sizeL es
end
theorem sizeE_eq (e : Ex) : sizeE e = 1 + sizeL e.kids := by cases e; rw [sizeE]; rfl
end Go.Abs

namespace Go.Abs
structure Sco where
  home : Hom
  modes : List ByteArray
  scenes : List ByteArray
  deriving Inhabited
def leafK (s : Sco) (kind : Int) (name : ByteArray) (value : Val) (key : Key) : Int × Int :=
  if kind = 1 then (value.kind, 0) else if kind = 2 then (if (findA s.home key).isSome = true then (((findA s.home key).getD noAttr).kind, 0) else (0, 8))
  else if kind = 3 ∧ idxOf s.modes name < 0 then (0, 8) else (1, 0)
def allI (l : List Int) (k : Int) : Bool := l.all fun x => decide (x = k)
def opK (k : Int) (l : List Int) : Int × Int :=
  if k = 6 ∨ k = 7 ∨ k = 8 then (if allI l 1 = true then (1, 0) else (0, 11))
  else if k = 9 then (if l.getD 0 default = l.getD 1 default then (1, 0) else (0, 11))
  else if k = 10 then (if allI l 2 = true then (1, 0) else (0, 11))
  else if k = 14 then (if l.getD 0 default = 1 ∧ l.getD 1 default = l.getD 2 default then (l.getD 1 default, 0) else (0, 11))
  else (if allI l 2 = true then (2, 0) else (0, 11))
mutual
def kindE (s : Sco) : Ex → Int × Int
  | .mk k _ _ nm v q ks => match ks with
    | [] => leafK s k nm v q
    | e :: es => match kindL s (e :: es) with
      | .inl x => (0, x)
      | .inr l => opK k l
def kindL (s : Sco) : List Ex → Int ⊕ List Int
  | [] => .inr []
  | e :: es => if (kindE s e).2 ≠ 0 then .inl (kindE s e).2 else match kindL s es with
    | .inl x => .inl x
    | .inr l => .inr ((kindE s e).1 :: l)
end
theorem kindE_leaf {s : Sco} {e : Ex} (h : e.kids.length = 0) : kindE s e = leafK s e.kind e.name e.value e.key := by
  obtain ⟨k, n, m, nm, v, q, ks⟩ := e
  have : ks = [] := List.length_eq_zero_iff.1 h
  subst this
  rw [kindE]; rfl
def KTo (s : Sco) (ks : List Ex) (k : Nat) (acc : List Int) : Prop := acc.length = k ∧ kindL s ks = match kindL s (ks.drop k) with | .inl x => .inl x | .inr r => .inr (acc ++ r)
theorem KTo.zero (s : Sco) (ks : List Ex) : KTo s ks 0 [] := ⟨rfl, by simp only [List.drop_zero, List.nil_append]; cases kindL s ks <;> rfl⟩
theorem KTo.next {s : Sco} {ks : List Ex} {k : Nat} {acc : List Int} (h : KTo s ks k acc) (hk : k < ks.length) (he : (kindE s (ks.getD k default)).2 = 0) : KTo s ks (k + 1) (acc ++ [(kindE s (ks.getD k default)).1]) := by
  have h2 := h.2
  rw [drop_getD hk, kindL, if_neg (by simpa using he)] at h2
  refine ⟨by simp [h.1], h2.trans ?_⟩
  cases kindL s (ks.drop (k + 1)) <;> simp
theorem KTo.done {s : Sco} {ks : List Ex} {k : Nat} {acc : List Int} (h : KTo s ks k acc) (hk : ks.length ≤ k) : kindL s ks = .inr acc := by
  have h2 := h.2
  rw [List.drop_of_length_le hk, kindL] at h2
  simpa using h2
end Go.Abs

namespace Go.Abs
structure Evt where
  dev : Int
  cluster : ByteArray
  name : ByteArray
  deriving Inhabited, DecidableEq
structure Trg where
  kind : Int
  key : Key
  event : Evt
  name : ByteArray
  n : Int
  m : Int
  deriving Inhabited, DecidableEq
structure Stp where
  kind : Int
  key : Key
  name : ByteArray
  expr : Ex
  deriving Inhabited
structure Rul where
  name : ByteArray
  prio : Int
  on : List Trg
  cond : Ex
  steps : List Stp
  deriving Inhabited
end Go.Abs

namespace Go.Abs
theorem bytesLess_iff : ∀ (x y : List UInt8), Op.bytesLess x y = true ↔ x < y
  | [], [] => by simp [Op.bytesLess]
  | [], _ :: _ => by simp [Op.bytesLess]
  | _ :: _, [] => by simp [Op.bytesLess]
  | a :: x, b :: y => by
    have ih := bytesLess_iff x y
    simp only [Op.bytesLess, List.cons_lt_cons_iff]
    by_cases h1 : a < b
    · simp [h1]
    · by_cases h2 : a = b
      · subst h2; simp [ih]
      · simp [h1, h2, ih]
        try (intro h3; exact h2 (UInt8.le_antisymm (UInt8.not_lt.1 h3) (UInt8.not_lt.1 h1)))
def sLt (a b : ByteArray) : Bool := Op.bytesLess a.toList b.toList
theorem sLt_iff {a b : ByteArray} : sLt a b = true ↔ a.data.toList < b.data.toList := by
  unfold sLt
  rw [bytesLess_iff, ByteArray.toList_eq, ByteArray.toList_eq]
theorem sLt_irrefl (a : ByteArray) : sLt a a = false := by
  rw [← Bool.not_eq_true, sLt_iff]
  exact List.lt_irrefl _
theorem sLt_trans {a b c : ByteArray} (h : sLt a b = true) (k : sLt b c = true) : sLt a c = true := by
  rw [sLt_iff] at *
  exact List.lt_trans h k
theorem sLt_asymm {a b : ByteArray} (h : sLt a b = true) : sLt b a = false := by
  rw [← Bool.not_eq_true]
  intro k
  have := sLt_trans h k
  rw [sLt_irrefl] at this; cases this
theorem sLt_total {a b : ByteArray} (h : a ≠ b) : sLt a b = true ∨ sLt b a = true := by
  rw [sLt_iff, sLt_iff]
  rcases Classical.em (a.data.toList < b.data.toList) with h1 | h1
  · exact .inl h1
  · rcases Classical.em (b.data.toList < a.data.toList) with h2 | h2
    · exact .inr h2
    · exfalso
      apply h
      have := List.le_antisymm (List.not_lt.1 h1) (List.not_lt.1 h2)
      cases a; cases b
      congr 1
      exact (Array.toList_inj.1 this).symm
end Go.Abs

namespace Go.Abs
open Go.Proofs
set_option maxRecDepth 10000
theorem keyLess_def (a b : Key) : keyLess a b = if a.dev ≠ b.dev then decide (a.dev < b.dev) else if a.cluster ≠ b.cluster then sLt a.cluster b.cluster else sLt a.attr b.attr := rfl
theorem keyLess_irrefl (a : Key) : keyLess a a = false := by
  rw [keyLess_def]; simp [sLt_irrefl]
theorem keyLess_total {a b : Key} (h : a ≠ b) : keyLess a b = true ∨ keyLess b a = true := by
  rw [keyLess_def, keyLess_def]
  by_cases h1 : a.dev = b.dev
  · by_cases h2 : a.cluster = b.cluster
    · by_cases h3 : a.attr = b.attr
      · exfalso; apply h; cases a; cases b; simp_all
      · simp [h1, h2]; exact sLt_total h3
    · simp [h1, h2, Ne.symm h2]; exact sLt_total h2
  · simp [h1, Ne.symm h1]; omega
theorem keyLess_trans {a b c : Key} (h : keyLess a b = true) (k : keyLess b c = true) : keyLess a c = true := by
  rw [keyLess_def] at *
  by_cases h1 : a.dev = b.dev <;> by_cases k1 : b.dev = c.dev
  · by_cases h2 : a.cluster = b.cluster <;> by_cases k2 : b.cluster = c.cluster
    · simp_all; exact sLt_trans h k
    · simp_all
    · have : a.cluster ≠ c.cluster := fun e => h2 (e.trans k2.symm)
      simp_all
    · have h3 : sLt a.cluster b.cluster = true := by simp_all
      have k3 : sLt b.cluster c.cluster = true := by simp_all
      have t := sLt_trans h3 k3
      have : a.cluster ≠ c.cluster := fun e => by rw [e, sLt_irrefl] at t; cases t
      simp [h1, k1, this]; exact t
  · simp [h1, k1] at h k ⊢; exact k
  · have : a.dev ≠ c.dev := fun e => h1 (e.trans k1.symm)
    simp [h1] at h
    simp [this]; omega
  · simp [h1] at h
    simp [k1] at k
    have : a.dev ≠ c.dev := by omega
    simp [this]; omega
theorem keyLess_asymm {a b : Key} (h : keyLess a b = true) : keyLess b a = false := by
  rw [← Bool.not_eq_true]
  intro k
  have := keyLess_trans h k
  rw [keyLess_irrefl] at this; cases this
theorem key_eq (a b : Key) : (decide (a.dev = b.dev) && (decide (a.cluster = b.cluster) && (decide (a.attr = b.attr) && true))) = decide (a = b) := by
  obtain ⟨a1, a2, a3⟩ := a
  obtain ⟨b1, b2, b3⟩ := b
  rw [Bool.eq_iff_iff]; simp
end Go.Abs

namespace Go.Abs
open Go.RowKit
theorem sum_range_le {β : Type} : ∀ (l : List β) (f : Nat → Nat) (h : β → Nat), (∀ (i : Nat) (x : β), l[i]? = some x → f i ≤ h x) → ((List.range l.length).map f).sum ≤ (l.map h).sum
  | [], _, _, _ => by simp
  | x :: l, f, h, hf => by
    rw [List.length_cons, List.range_succ_eq_map]
    simp only [List.map_cons, List.map_map, List.sum_cons]
    have h0 := hf 0 x rfl
    have h1 := sum_range_le l (fun i => f (i + 1)) h (fun i y e => hf (i + 1) y (by simpa using e))
    have e : (f ∘ Nat.succ) = fun i => f (i + 1) := rfl
    rw [e]
    omega
structure BulkSum {H : Type} (bulk : DataW H → Nat) : Prop where
  slice : ∀ e s, (e.map bulk).sum ≤ bulk (.slice e s)
  agg : ∀ l, (l.map bulk).sum + 1 ≤ bulk (.agg l)
section
variable {H : Type} (enc : TypeId × Value → H) (P : Program) (w : World) (bulk : DataW H → Nat) (B : Nat)
def OpensU (N : Nat) (t : TypeId) {α : Type} (cs : α → List PV) (good : α → Prop) (me : α → Nat) : Prop :=
  ∀ (sp : Nat → Bool) (fuel : Nat) (vs : List Value) (x : DataW H × List MemPlace), fuel ≤ N → DataW.trod enc P w 0 sp true fuel t vs = some x → bulk x.1 ≤ B → ∃ a : α, good a ∧ me a ≤ bulk x.1 ∧ Reads w vs (cs a)
def FOpensU (N : Nat) (fs : List Field) (off : Nat) {α : Type} (cs : α → List PV) (good : α → Prop) (me : α → Nat) : Prop :=
  ∀ (sp : Nat → Bool) (n : Nat) (vs : List Value) (xs : List (DataW H × List MemPlace)), n ≤ N → xs.length = fs.length → (∀ (i : Nat) (f : Field), fs[i]? = some f → DataW.trod enc P w 0 sp true n f.type ((vs.drop f.offset).take (P.cellsOf f.type)) = xs[i]?) →
    (∀ y ∈ xs, bulk y.1 ≤ B) → off ≤ vs.length → vs.length = off + (fs.map fun f => P.cellsOf f.type).sum → ∃ a : α, good a ∧ me a ≤ (xs.map fun y => bulk y.1).sum ∧ Reads w (vs.drop off) (cs a)
end
section
variable {H : Type} {enc : TypeId × Value → H} {P : Program} {w : World} {bulk : DataW H → Nat} {B : Nat}
theorem OpensU.all {t : TypeId} {α : Type} {cs : α → List PV} {good : α → Prop} {me : α → Nat} (h : ∀ N, OpensU enc P w bulk B N t cs good me) : Opens enc P w bulk B t cs (fun a => good a ∧ me a ≤ B) := by
  intro sp fuel vs x hx hb
  obtain ⟨a, h1, h2, h3⟩ := h fuel sp fuel vs x (Nat.le_refl _) hx hb
  exact ⟨a, ⟨h1, Nat.le_trans h2 hb⟩, h3⟩
theorem OpensU.imp {t : TypeId} {α β : Type} {cs : α → List PV} {good : α → Prop} {me : α → Nat} {cs' : β → List PV} {good' : β → Prop} {me' : β → Nat} {N : Nat} (h : OpensU enc P w bulk B N t cs good me) (f : α → β) (he : ∀ a, good a → ∀ vs, Reads w vs (cs a) → Reads w vs (cs' (f a))) (hg : ∀ a, good a → good' (f a)) (hm : ∀ a, me' (f a) ≤ me a) : OpensU enc P w bulk B N t cs' good' me' := by
  intro sp fuel vs x hf hx hb
  obtain ⟨a, h1, h2, h3⟩ := h sp fuel vs x hf hx hb
  exact ⟨f a, hg a h1, Nat.le_trans (hm a) h2, he a h1 vs h3⟩
theorem OpensU.slice (hB : BulkOk bulk) (hS : BulkSum bulk) {t e : TypeId} {α : Type} [Inhabited α] {cs : α → List PV} {good : α → Prop} {me : α → Nat} {N : Nat} {size : Nat} (ht : P.underlying t = some (.slice e)) (hsz : P.cellsOf e = size) (hpos : 0 < size) (he : OpensU enc P w bulk B N e cs good me) :
    OpensU enc P w bulk B (N + 1) t (fun l : List α => [roL size cs l]) (fun l => l.length ≤ B ∧ ∀ i, i < l.length → good (l.getD i default)) (fun l => (l.map me).sum) := by
  intro sp fuel vs x hfu hx hb
  rcases DataW.trod_slice ht hx with ⟨rfl, rfl⟩ | ⟨a, len, cap, elems, rest, n, rfl, rfl, rfl, _, hlc, hcm, hel, hcell, _, _⟩
  · exact ⟨[], ⟨Nat.zero_le _, fun i h => absurd h (by simp)⟩, Nat.zero_le _, Reads.single ((PSub.nil_ro size _).to _ _ _ (.val _)) rfl⟩
  · simp only at hb
    have hlen : len ≤ B := by
      have := hB.len (elems.map (·.1)) (rest.map (·.1))
      simp only [List.length_map] at this
      omega
    have hone : ∀ i, i < len → ∃ y, (good y ∧ ∀ z, elems[i]? = some z → me y ≤ bulk z.1) ∧ ∃ cl, w.cells? 0 (a.add (i * size)) size = some cl ∧ Reads w cl (cs y) := by
      intro i hi
      have h1 := hcell i hi
      rw [hsz] at h1
      have hi2 : i < elems.length := by omega
      rw [List.getElem?_eq_getElem hi2] at h1
      cases hc : w.cells? 0 (a.add (i * size)) size with
      | none => rw [hc] at h1; cases h1
      | some cl =>
        rw [hc] at h1
        simp only [Option.bind_some] at h1
        have hb2 : bulk (elems[i]).1 ≤ B := Nat.le_trans (hB.elem (elems.map (·.1)) (rest.map (·.1)) _ (List.mem_map_of_mem (List.getElem_mem hi2))) hb
        obtain ⟨y, hg, hme, hr⟩ := he sp n cl _ (by omega) h1 hb2
        exact ⟨y, ⟨hg, fun z hz => by rw [List.getElem?_eq_getElem hi2] at hz; cases hz; exact hme⟩, cl, rfl, hr⟩
    have hex : ∃ f : Nat → α, ∀ i, i < len → (good (f i) ∧ ∀ z, elems[i]? = some z → me (f i) ≤ bulk z.1) ∧ ∃ cl, w.cells? 0 (a.add (i * size)) size = some cl ∧ Reads w cl (cs (f i)) :=
      ⟨fun i => if h : i < len then Classical.choose (hone i h) else default, fun i hi => by simp only [dif_pos hi]; exact Classical.choose_spec (hone i hi)⟩
    obtain ⟨f, hf⟩ := hex
    have hget : ∀ i, i < len → ((List.range len).map f).getD i default = f i := fun i hi => by simp [List.getD, hi]
    refine ⟨(List.range len).map f, ⟨by simpa using hlen, fun i hi => ?_⟩, ?_, Reads.single ?_ rfl⟩
    · have hi : i < len := by simpa using hi
      rw [hget i hi]; exact (hf i hi).1.1
    · have h1 := sum_range_le elems (fun i => me (f i)) (fun z => bulk z.1) (fun i z hz => (hf i (by have := (List.getElem?_eq_some_iff.1 hz).1; omega)).1.2 z hz)
      have h2 := hS.slice (elems.map (·.1)) (rest.map (·.1))
      rw [List.map_map] at h2
      dsimp only
      rw [List.map_map]
      rw [show elems.length = len from by omega] at h1
      exact Nat.le_trans h1 h2
    · have key : ∀ i, i < len → ∀ j, j < size → ∃ v, w.cell? (a.add (i * size + j)) = some v ∧ v.oneCell' = true ∧ (a.add (i * size + j)).block < w.heap.size ∧ ∀ p, (cs (f i))[j]? = some p → PR w (fun _ => False) p v := by
        intro i hi j hj
        obtain ⟨_, cl, hc, hr⟩ := hf i hi
        obtain ⟨_, hl, hall⟩ := World.cells?_some hc
        have hj2 : j < cl.length := by omega
        have h1 := hall j hj
        rw [add_add, List.getElem?_eq_getElem hj2] at h1
        have hg : cl.getD j undef = cl[j] := by simp [List.getD, hj2]
        refine ⟨cl[j], h1, by rw [← hg]; exact hr.one j hj2, ?_, fun p hp => by rw [← hg]; exact hr.pr j p hp⟩
        have hb := World.cells?_block hc hpos
        simpa [block_add] using hb
      have hn : ((List.range len).map f).length = len := by simp
      unfold roL
      rw [hn]
      refine .ro size len _ (some a) cap (fun i j => (w.cell? (a.add (i * size + j))).getD undef) hlc hcm (fun h => by cases h) (fun i hi => ?_) (fun h0 => ⟨a, rfl, ?_, fun h => h.elim, fun i hi j hj => ?_⟩) (fun i hi j p hp => ?_)
      · rw [hget i hi]
        obtain ⟨_, cl, hc, hr⟩ := hf i hi
        obtain ⟨_, hl, _⟩ := World.cells?_some hc
        rw [← hr.len]; exact hl
      · obtain ⟨v, _, _, hb, _⟩ := key 0 h0 0 hpos
        simpa [block_add] using hb
      · obtain ⟨v, e, h1, _, _⟩ := key i hi j hj
        rw [e]; exact ⟨rfl, h1⟩
      · rw [hget i hi] at hp
        have hj : j < size := by
          obtain ⟨_, cl, hc, hr⟩ := hf i hi
          obtain ⟨_, hl, _⟩ := World.cells?_some hc
          have := (List.getElem?_eq_some_iff.1 hp).1
          rw [← hr.len, hl] at this; exact this
        obtain ⟨v, e, _, _, hpv⟩ := key i hi j hj
        simp only [e, Option.getD_some]
        exact hpv p hp
theorem FOpensU.nil {N : Nat} {off : Nat} : FOpensU enc P w bulk B N [] off (fun _ : Unit => []) (fun _ => True) (fun _ => 0) := by
  intro sp n vs xs _ _ _ _ _ hl
  simp at hl
  exact ⟨(), trivial, Nat.zero_le _, by rw [List.drop_of_length_le (by omega)]; exact Reads.nil⟩
theorem FOpensU.cons {N : Nat} {f : Field} {fs : List Field} {off : Nat} {α β : Type} {cs : α → List PV} {good : α → Prop} {me : α → Nat} {me' : β → Nat} {cs' : β → List PV} {good' : β → Prop} {size : Nat} (ho : f.offset = off) (hsz : P.cellsOf f.type = size) (h : OpensU enc P w bulk B N f.type cs good me) (k : FOpensU enc P w bulk B N fs (off + size) cs' good' me') :
    FOpensU enc P w bulk B N (f :: fs) off (fun x : α × β => cs x.1 ++ cs' x.2) (fun x => good x.1 ∧ good' x.2) (fun x => me x.1 + me' x.2) := by
  subst ho; subst hsz
  intro sp n vs xs hnN hxl hx hb hoff hl
  cases xs with
  | nil => simp at hxl
  | cons y ys =>
    have h0 := hx 0 f rfl
    simp only [List.getElem?_cons_zero] at h0
    obtain ⟨a, ha, ma, ra⟩ := h sp n _ _ hnN h0 (hb y (by simp))
    simp only [List.map_cons, List.sum_cons] at hl
    obtain ⟨b, hb2, mb, rb⟩ := k sp n vs ys hnN (by simpa using hxl) (fun i g hg => by simpa using hx (i + 1) g (by simpa using hg)) (fun z hz => hb z (by simp [hz])) (by omega) (by omega)
    refine ⟨(a, b), ⟨ha, hb2⟩, by simp only [List.map_cons, List.sum_cons]; omega, ?_⟩
    have e : vs.drop f.offset = (vs.drop f.offset).take (P.cellsOf f.type) ++ vs.drop (f.offset + P.cellsOf f.type) := by
      rw [← List.drop_drop, List.take_append_drop]
    rw [e]
    exact ra.append rb
theorem OpensU.struct (hB : BulkOk bulk) (hS : BulkSum bulk) {N : Nat} {t : TypeId} {fs : Array Field} {α : Type} {cs : α → List PV} {good : α → Prop} {me : α → Nat} (ht : P.underlying t = some (.struct fs)) (hc : P.cellsOf t = (fs.toList.map fun f => P.cellsOf f.type).sum) (h : FOpensU enc P w bulk B N fs.toList 0 cs good me) :
    OpensU enc P w bulk B (N + 1) t cs good (fun a => me a + 1) := by
  intro sp fuel vs x hfu hx hb
  obtain ⟨xs, n, rfl, rfl, hl, hxl, hall⟩ := DataW.trod_struct ht hx
  obtain ⟨a, ha, hma, hr⟩ := h sp n vs xs (by omega) (by simpa using hxl) (fun i f hf => hall i f (by simpa using hf)) (fun y hy => Nat.le_trans (hB.part _ _ (List.mem_map_of_mem hy)) hb) (Nat.zero_le _) (by rw [hl, hc]; simp)
  refine ⟨a, ha, ?_, by simpa using hr⟩
  have := hS.agg (xs.map (·.1))
  rw [List.map_map] at this
  exact Nat.le_trans (Nat.add_le_add_right hma 1) this
end
end Go.Abs

namespace Go.Abs
open Go.Proofs Go.RowKit
set_option maxRecDepth 10000
section
variable {H : Type} {enc : TypeId × Value → H} {w : World} {bulk : DataW H → Nat}
theorem Reads.sub {vs : List Value} {ps qs : List PV} (h : Reads w vs ps) (hs : PSubs ps qs) : Reads w vs qs :=
  ⟨h.len.trans hs.length, fun i x e => by obtain ⟨p, hp, hpq⟩ := hs.get i x e; exact hpq.to _ _ _ (h.pr i p hp), h.one⟩
end
end Go.Abs

namespace Go.Abs
def litX (b : Bool) : Ex := .mk 1 0 0 ⟨#[]⟩ ⟨1, if b = true then 1 else 0, ⟨#[]⟩⟩ noKey []
mutual
/-- all nodes are right -/
def okN : Ex → Prop
  | .mk k n m s v q ks => nodeE (.mk k n m s v q ks) = 0 ∧ okNL ks
def okNL : List Ex → Prop
  | [] => True
  | e :: es => okN e ∧ okNL es
end
theorem okN_iff (e : Ex) : okN e ↔ nodeE e = 0 ∧ okNL e.kids := by cases e; rw [okN]; rfl
mutual
def depE : Ex → Int
  | .mk _ _ _ _ _ _ ks => 1 + depL ks
def depL : List Ex → Int
  | [] => 0
  | e :: es => if depE e < depL es then depL es else depE e
end
theorem depE_eq (e : Ex) : depE e = 1 + depL e.kids := by cases e; rw [depE]; rfl
theorem depL_nn : ∀ l : List Ex, 0 ≤ depL l
  | [] => by rw [depL]; exact Int.le_refl 0
  | e :: l => by
    have := depL_nn l
    have h2 : 1 ≤ depE e ∨ depE e < depL l ∨ True := .inr (.inr trivial)
    rw [depL]
    split
    · exact this
    · omega
theorem depE_pos (e : Ex) : 1 ≤ depE e := by rw [depE_eq]; have := depL_nn e.kids; omega
theorem litX_ok (b : Bool) : nodeE (litX b) = 0 := by cases b <;> rfl
theorem litX_okN (b : Bool) : okN (litX b) := (okN_iff _).2 ⟨litX_ok b, by rw [show (litX b).kids = [] from rfl, okNL]; trivial⟩
theorem litX_dep (b : Bool) : depE (litX b) = 1 := by rw [depE_eq, show (litX b).kids = [] from rfl, depL]; rfl
theorem litX_size (b : Bool) : sizeE (litX b) = 1 := by rw [sizeE_eq, show (litX b).kids = [] from rfl, sizeL]
theorem litX_kind (s : Sco) (b : Bool) : kindE s (litX b) = (1, 0) := by rw [kindE_leaf rfl]; rfl
structure Keeps (s : Sco) (e x : Ex) : Prop where
  ok : okN x
  dep : depE x ≤ depE e
  size : sizeE x ≤ sizeE e
  kind : (kindE s e).2 = 0 → kindE s x = kindE s e
theorem Keeps.refl {s : Sco} {e : Ex} (h : okN e) : Keeps s e e := ⟨h, Int.le_refl _, Nat.le_refl _, fun _ => rfl⟩
theorem Keeps.lit {s : Sco} {e : Ex} {b : Bool} (h : (kindE s e).2 = 0 → kindE s e = (1, 0)) : Keeps s e (litX b) :=
  ⟨litX_okN b, by rw [litX_dep]; exact depE_pos e, by rw [litX_size, sizeE_eq]; omega, fun hk => by rw [litX_kind, h hk]⟩
end Go.Abs

namespace Go.Abs
theorem getD_getElem {α : Type} (l : List α) {i : Nat} (d : α) (h : i < l.length) : l.getD i d = l[i] := by simp [List.getD, h]
def Asc (l : List Key) : Prop := l.Pairwise fun a b => keyLess a b = true
theorem asc_ext : ∀ {l k : List Key}, Asc l → Asc k → (∀ x, x ∈ l ↔ x ∈ k) → l = k
  | [], [], _, _, _ => rfl
  | [], b :: k, _, _, h => by have := (h b).2 (by simp); simp at this
  | a :: l, [], _, _, h => by have := (h a).1 (by simp); simp at this
  | a :: l, b :: k, hl, hk, h => by
    obtain ⟨hl1, hl2⟩ := List.pairwise_cons.1 hl
    obtain ⟨hk1, hk2⟩ := List.pairwise_cons.1 hk
    have e : a = b := by
      have h1 := (h a).1 (by simp)
      have h2 := (h b).2 (by simp)
      rcases List.mem_cons.1 h1 with e | h1
      · exact e
      · rcases List.mem_cons.1 h2 with e | h2
        · exact e.symm
        · have := keyLess_asymm (hl1 b h2)
          rw [hk1 a h1] at this; cases this
    subst e
    congr 1
    refine asc_ext hl2 hk2 fun x => ⟨fun hx => ?_, fun hx => ?_⟩
    · rcases List.mem_cons.1 ((h x).1 (by simp [hx])) with e | h1
      · subst e; have := hl1 x hx; rw [keyLess_irrefl] at this; cases this
      · exact h1
    · rcases List.mem_cons.1 ((h x).2 (by simp [hx])) with e | h1
      · subst e; have := hk1 x hx; rw [keyLess_irrefl] at this; cases this
      · exact h1
def putK : List Key → Key → List Key
  | [], k => [k]
  | x :: r, k => if keyLess x k = true then x :: putK r k else k :: (x :: r).filter fun y => decide (y ≠ k)
theorem mem_putK {l : List Key} {k x : Key} : x ∈ putK l k ↔ x = k ∨ x ∈ l := by
  induction l with
  | nil => simp [putK]
  | cons y r ih =>
    unfold putK
    split
    · simp only [List.mem_cons, ih]
      constructor
      · rintro (h | h | h)
        · exact .inr (.inl h)
        · exact .inl h
        · exact .inr (.inr h)
      · rintro (h | h | h)
        · exact .inr (.inl h)
        · exact .inl h
        · exact .inr (.inr h)
    · simp only [List.mem_cons, List.mem_filter, decide_eq_true_eq]
      constructor
      · rintro (h | ⟨h, _⟩)
        · exact .inl h
        · exact .inr h
      · rintro (h | h)
        · exact .inl h
        · by_cases e : x = k
          · exact .inl e
          · exact .inr ⟨h, e⟩
theorem asc_putK {l : List Key} {k : Key} (h : Asc l) : Asc (putK l k) := by
  induction l with
  | nil => simp [putK, Asc]
  | cons y r ih =>
    obtain ⟨h1, h2⟩ := List.pairwise_cons.1 h
    unfold putK
    split
    · rename_i hy
      refine List.pairwise_cons.2 ⟨fun x hx => ?_, ih h2⟩
      rcases mem_putK.1 hx with rfl | hx
      · exact hy
      · exact h1 x hx
    · rename_i hy
      refine List.pairwise_cons.2 ⟨fun x hx => ?_, h.sublist (List.filter_sublist)⟩
      rw [List.mem_filter, decide_eq_true_eq] at hx
      obtain ⟨hx, hne⟩ := hx
      rcases List.mem_cons.1 hx with rfl | hx
      · exact (keyLess_total hne).resolve_left hy
      · have h3 := h1 x hx
        rcases keyLess_total hne with h4 | h4
        · exact absurd (keyLess_trans h3 h4) hy
        · exact h4
def sortK (l : List Key) : List Key := l.foldl putK []
theorem foldl_putK_mem {l acc : List Key} {x : Key} : x ∈ l.foldl putK acc ↔ x ∈ acc ∨ x ∈ l := by
  induction l generalizing acc with
  | nil => simp
  | cons y r ih =>
    simp only [List.foldl_cons, ih, mem_putK, List.mem_cons]
    constructor
    · rintro ((h | h) | h)
      · exact .inr (.inl h)
      · exact .inl h
      · exact .inr (.inr h)
    · rintro (h | h | h)
      · exact .inl (.inr h)
      · exact .inl (.inl h)
      · exact .inr h
theorem foldl_putK_asc {l acc : List Key} (h : Asc acc) : Asc (l.foldl putK acc) := by
  induction l generalizing acc with
  | nil => exact h
  | cons y r ih => exact ih (asc_putK h)
theorem mem_sortK {l : List Key} {x : Key} : x ∈ sortK l ↔ x ∈ l := by unfold sortK; rw [foldl_putK_mem]; simp
theorem asc_sortK (l : List Key) : Asc (sortK l) := foldl_putK_asc List.Pairwise.nil
def compTo (l : List Key) : Nat → List Key
  | 0 => []
  | m + 1 => if m = 0 ∨ l.getD m default ≠ l.getD (m - 1) default then compTo l m ++ [l.getD m default] else compTo l m
theorem compTo_take {l : List Key} : ∀ {m : Nat}, m ≤ l.length → (∀ j, 1 ≤ j → j < m → l.getD j default ≠ l.getD (j - 1) default) → compTo l m = l.take m
  | 0, _, _ => by simp [compTo]
  | m + 1, hm, h => by
    have ih := compTo_take (l := l) (m := m) (by omega) (fun j h1 h2 => h j h1 (by omega))
    unfold compTo
    rw [if_pos, ih, take_succ_getD (by omega)]
    by_cases e : m = 0
    · exact .inl e
    · exact .inr (h m (by omega) (by omega))
def Ord (l : List Key) : Prop := ∀ i j, i < j → j < l.length → keyLess (l.getD j default) (l.getD i default) = false
theorem compTo_spec {s : List Key} (hs : Ord s) : ∀ m, m ≤ s.length → Asc (compTo s m) ∧ ∀ x, x ∈ compTo s m ↔ ∃ i, i < m ∧ s.getD i default = x
  | 0, _ => ⟨List.Pairwise.nil, fun x => by simp [compTo]⟩
  | m + 1, hm => by
    obtain ⟨h1, h2⟩ := compTo_spec hs m (by omega)
    unfold compTo
    split
    · rename_i hne
      refine ⟨List.pairwise_append.2 ⟨h1, by simp, fun a ha b hb => ?_⟩, fun x => ?_⟩
      · simp only [List.mem_singleton] at hb
        subst hb
        obtain ⟨i, hi, rfl⟩ := (h2 a).1 ha
        have hle := hs i m hi (by omega)
        by_cases e : s.getD i default = s.getD m default
        · exfalso
          have hne := hne.resolve_left (by omega)
          have h3 := hs (m - 1) m (by omega) (by omega)
          have h4 : keyLess (s.getD (m - 1) default) (s.getD m default) = false := by
            by_cases ei : i = m - 1
            · subst ei; rw [e]; exact keyLess_irrefl _
            · rw [← e]; exact hs i (m - 1) (by omega) (by omega)
          rcases keyLess_total hne with h5 | h5
          · rw [h5] at h3; cases h3
          · rw [h5] at h4; cases h4
        · rcases keyLess_total e with h5 | h5
          · exact h5
          · rw [h5] at hle; cases hle
      · rw [List.mem_append, h2, List.mem_singleton]
        constructor
        · rintro (⟨i, hi, e⟩ | e)
          · exact ⟨i, by omega, e⟩
          · exact ⟨m, by omega, e.symm⟩
        · rintro ⟨i, hi, e⟩
          by_cases ei : i = m
          · subst ei; exact .inr e.symm
          · exact .inl ⟨i, by omega, e⟩
    · rename_i hne
      have hne := not_or.1 hne
      have heq := Classical.not_not.1 hne.2
      refine ⟨h1, fun x => ?_⟩
      rw [h2]
      constructor
      · rintro ⟨i, hi, e⟩; exact ⟨i, by omega, e⟩
      · rintro ⟨i, hi, e⟩
        by_cases ei : i = m
        · subst ei; exact ⟨i - 1, by omega, by rw [← heq]; exact e⟩
        · exact ⟨i, by omega, e⟩
def sortedK (l : List Key) : List Key := l.mergeSort fun x y => !keyLess y x
theorem sortedK_ord (l : List Key) : Ord (sortedK l) := by
  have hp := List.pairwise_mergeSort (le := fun x y : Key => !keyLess y x) (fun a b c h1 h2 => by
    simp only [Bool.not_eq_true'] at *
    cases h3 : keyLess c a with
    | false => rfl
    | true =>
      exfalso
      by_cases e : a = b
      · subst e; rw [h3] at h2; cases h2
      · rcases keyLess_total e with h4 | h4
        · have := keyLess_trans h3 h4; rw [this] at h2; cases h2
        · rw [h4] at h1; cases h1) (fun a b => by
    simp only [Bool.or_eq_true, Bool.not_eq_true']
    cases h : keyLess b a with
    | false => exact .inl rfl
    | true => exact .inr (keyLess_asymm h)) l
  intro i j hij hj
  have hj' : j < (l.mergeSort fun x y => !keyLess y x).length := hj
  have := List.pairwise_iff_getElem.1 hp i j (by omega) hj' hij
  simp only [Bool.not_eq_true'] at this
  unfold sortedK
  rw [getD_getElem _ _ hj', getD_getElem _ _ (show i < (l.mergeSort fun x y => !keyLess y x).length from by omega)]
  exact this
theorem sortedK_length (l : List Key) : (sortedK l).length = l.length := List.length_mergeSort _
theorem comp_sorted (l : List Key) : compTo (sortedK l) l.length = sortK l := by
  obtain ⟨h1, h2⟩ := compTo_spec (sortedK_ord l) l.length (by rw [sortedK_length]; exact Nat.le_refl _)
  refine asc_ext h1 (asc_sortK l) fun x => ?_
  rw [h2, mem_sortK, ← List.mem_mergeSort (le := fun x y => !keyLess y x)]
  show _ ↔ x ∈ sortedK l
  rw [List.mem_iff_getElem]
  constructor
  · rintro ⟨i, hi, e⟩
    exact ⟨i, by rw [sortedK_length]; exact hi, by simpa [List.getD, show i < (sortedK l).length from by rw [sortedK_length]; exact hi] using e⟩
  · rintro ⟨i, hi, e⟩
    exact ⟨i, by rwa [sortedK_length] at hi, by simp [List.getD, hi, e]⟩
theorem sortedK_asc {l : List Key} (h : l.Nodup) : sortedK l = sortK l := by
  have hn : (sortedK l).Nodup := (List.mergeSort_perm l _).nodup_iff.2 h
  rw [← comp_sorted l, compTo_take (by rw [sortedK_length]; exact Nat.le_refl _), ← sortedK_length l, List.take_length]
  intro j h1 h2
  have h3 : j < (sortedK l).length := by rw [sortedK_length]; exact h2
  intro e
  have h5 : j - 1 < (sortedK l).length := by omega
  rw [getD_getElem _ _ h3, getD_getElem _ _ h5] at e
  have := List.pairwise_iff_getElem.1 hn (j - 1) j h5 h3 (by omega)
  exact this e.symm
def cmpK (a b : Key) : Int := if keyLess a b = true then -1 else if keyLess b a = true then 1 else 0
theorem ltOf_cmpK (a b : Key) : Proofs.ltOf cmpK a b = keyLess a b := by
  unfold Proofs.ltOf cmpK
  by_cases h : keyLess a b = true
  · simp [h]
  · by_cases h2 : keyLess b a = true <;> simp [h, h2]
theorem swo_cmpK : Sort.SWO (Proofs.ltOf cmpK) := by
  refine ⟨fun x => by rw [ltOf_cmpK]; exact keyLess_irrefl x, fun x y z h1 h2 => ?_, fun x y z h1 h2 => ?_⟩
  · rw [ltOf_cmpK] at *; exact keyLess_trans h1 h2
  · rw [ltOf_cmpK] at *
    cases h3 : keyLess x z with
    | false => rfl
    | true =>
      exfalso
      by_cases e : y = x
      · subst e; rw [h3] at h2; cases h2
      · rcases keyLess_total e with h4 | h4
        · have := keyLess_trans h4 h3; rw [this] at h2; cases h2
        · rw [h4] at h1; cases h1
theorem parts_cmpK (a b : Key) (h1 : Proofs.ltOf cmpK a b = false) (h2 : Proofs.ltOf cmpK b a = false) : a = b := by
  rw [ltOf_cmpK] at *
  rcases Classical.em (a = b) with e | e
  · exact e
  · rcases keyLess_total e with h | h
    · rw [h] at h1; cases h1
    · rw [h] at h2; cases h2
def vKey (k : Key) : List Value := [.int .i64 k.dev, .string k.cluster, .string k.attr]
theorem sortedK_eq (l : List Key) : (l.mergeSort fun x y => !(Proofs.ltOf cmpK) y x) = sortedK l := by
  have : (fun x y : Key => !(Proofs.ltOf cmpK) y x) = fun x y => !keyLess y x := funext fun x => funext fun y => by rw [ltOf_cmpK]
  rw [sortedK, this]
end Go.Abs

namespace Go.Abs
variable [Globals]
structure Scene where
  name : ByteArray
  items : List Item
  deriving Inhabited, DecidableEq
structure Cause where
  kind : Int
  name : ByteArray
  prio : Int
  deriving Inhabited, DecidableEq
structure Write where
  key : Key
  value : Val
  cause : Cause
  order : Int
  deriving Inhabited, DecidableEq
theorem firstI_cases {n : Nat} {p : Nat → Bool} : (firstI n p < n ∧ p (firstI n p) = true ∧ ∀ j, j < firstI n p → p j = false) ∨ (firstI n p = n ∧ ∀ j, j < n → p j = false) := by
  unfold firstI
  split
  · rename_i i e
    rw [List.find?_range_eq_some] at e
    exact .inl ⟨by simpa using e.2.1, e.1, fun j hj => by simpa using e.2.2 j hj⟩
  · rename_i e
    rw [List.find?_eq_none] at e
    exact .inr ⟨rfl, fun j hj => by simpa using e j (by simpa using hj)⟩
end Go.Abs

namespace Go.Abs
variable [Globals]
structure Spn where
  fr : Int
  to : Int
  deriving Inhabited, DecidableEq
structure Mem where
  name : ByteArray
  role : Int
  spans : List Spn
  rooms : List ByteArray
  home : Bool
  deriving Inhabited, DecidableEq
structure Vw where
  items : List Item
  mode : ByteArray
  minute : Int
  members : List Mem
  deriving Inhabited
def cSpn (s : Spn) : List PV := [vint s.fr, vint s.to]
def cMem (m : Mem) : List PV := [vstr m.name, vint m.role, roL 2 cSpn m.spans, roL 1 cstr m.rooms, vbool m.home]
end Go.Abs

namespace Go.Abs
def AscS (l : List ByteArray) : Prop := l.Pairwise fun a b => sLt a b = true
theorem ascS_ext : ∀ {l k : List ByteArray}, AscS l → AscS k → (∀ x, x ∈ l ↔ x ∈ k) → l = k
  | [], [], _, _, _ => rfl
  | [], b :: k, _, _, h => by have := (h b).2 (by simp); simp at this
  | a :: l, [], _, _, h => by have := (h a).1 (by simp); simp at this
  | a :: l, b :: k, hl, hk, h => by
    obtain ⟨hl1, hl2⟩ := List.pairwise_cons.1 hl
    obtain ⟨hk1, hk2⟩ := List.pairwise_cons.1 hk
    have e : a = b := by
      have h1 := (h a).1 (by simp)
      have h2 := (h b).2 (by simp)
      rcases List.mem_cons.1 h1 with e | h1
      · exact e
      · rcases List.mem_cons.1 h2 with e | h2
        · exact e.symm
        · have := sLt_asymm (hl1 b h2)
          rw [hk1 a h1] at this; cases this
    subst e
    congr 1
    refine ascS_ext hl2 hk2 fun x => ⟨fun hx => ?_, fun hx => ?_⟩
    · rcases List.mem_cons.1 ((h x).1 (by simp [hx])) with e | h1
      · subst e; have := hl1 x hx; rw [sLt_irrefl] at this; cases this
      · exact h1
    · rcases List.mem_cons.1 ((h x).2 (by simp [hx])) with e | h1
      · subst e; have := hk1 x hx; rw [sLt_irrefl] at this; cases this
      · exact h1
def putS : List ByteArray → ByteArray → List ByteArray
  | [], k => [k]
  | x :: r, k => if sLt x k = true then x :: putS r k else k :: (x :: r).filter fun y => decide (y ≠ k)
theorem mem_putS {l : List ByteArray} {k x : ByteArray} : x ∈ putS l k ↔ x = k ∨ x ∈ l := by
  induction l with
  | nil => simp [putS]
  | cons y r ih =>
    unfold putS
    split
    · simp only [List.mem_cons, ih]
      constructor
      · rintro (h | h | h)
        · exact .inr (.inl h)
        · exact .inl h
        · exact .inr (.inr h)
      · rintro (h | h | h)
        · exact .inr (.inl h)
        · exact .inl h
        · exact .inr (.inr h)
    · simp only [List.mem_cons, List.mem_filter, decide_eq_true_eq]
      constructor
      · rintro (h | ⟨h, _⟩)
        · exact .inl h
        · exact .inr h
      · rintro (h | h)
        · exact .inl h
        · by_cases e : x = k
          · exact .inl e
          · exact .inr ⟨h, e⟩
theorem ascS_putS {l : List ByteArray} {k : ByteArray} (h : AscS l) : AscS (putS l k) := by
  induction l with
  | nil => simp [putS, AscS]
  | cons y r ih =>
    obtain ⟨h1, h2⟩ := List.pairwise_cons.1 h
    unfold putS
    split
    · rename_i hy
      refine List.pairwise_cons.2 ⟨fun x hx => ?_, ih h2⟩
      rcases mem_putS.1 hx with rfl | hx
      · exact hy
      · exact h1 x hx
    · rename_i hy
      refine List.pairwise_cons.2 ⟨fun x hx => ?_, h.sublist (List.filter_sublist)⟩
      rw [List.mem_filter, decide_eq_true_eq] at hx
      obtain ⟨hx, hne⟩ := hx
      rcases List.mem_cons.1 hx with rfl | hx
      · exact (sLt_total hne).resolve_left hy
      · have h3 := h1 x hx
        rcases sLt_total hne with h4 | h4
        · exact absurd (sLt_trans h3 h4) hy
        · exact h4
def sortS (l : List ByteArray) : List ByteArray := l.foldl putS []
theorem foldl_putS_mem {l acc : List ByteArray} {x : ByteArray} : x ∈ l.foldl putS acc ↔ x ∈ acc ∨ x ∈ l := by
  induction l generalizing acc with
  | nil => simp
  | cons y r ih =>
    simp only [List.foldl_cons, ih, mem_putS, List.mem_cons]
    constructor
    · rintro ((h | h) | h)
      · exact .inr (.inl h)
      · exact .inl h
      · exact .inr (.inr h)
    · rintro (h | h | h)
      · exact .inl (.inr h)
      · exact .inl (.inl h)
      · exact .inr h
theorem foldl_putS_asc {l acc : List ByteArray} (h : AscS acc) : AscS (l.foldl putS acc) := by
  induction l generalizing acc with
  | nil => exact h
  | cons y r ih => exact ih (ascS_putS h)
theorem mem_sortS {l : List ByteArray} {x : ByteArray} : x ∈ sortS l ↔ x ∈ l := by unfold sortS; rw [foldl_putS_mem]; simp
theorem ascS_sortS (l : List ByteArray) : AscS (sortS l) := foldl_putS_asc List.Pairwise.nil
def compToS (l : List ByteArray) : Nat → List ByteArray
  | 0 => []
  | m + 1 => if m = 0 ∨ l.getD m default ≠ l.getD (m - 1) default then compToS l m ++ [l.getD m default] else compToS l m
theorem compToS_take {l : List ByteArray} : ∀ {m : Nat}, m ≤ l.length → (∀ j, 1 ≤ j → j < m → l.getD j default ≠ l.getD (j - 1) default) → compToS l m = l.take m
  | 0, _, _ => by simp [compToS]
  | m + 1, hm, h => by
    have ih := compToS_take (l := l) (m := m) (by omega) (fun j h1 h2 => h j h1 (by omega))
    unfold compToS
    rw [if_pos, ih, take_succ_getD (by omega)]
    by_cases e : m = 0
    · exact .inl e
    · exact .inr (h m (by omega) (by omega))
def OrdS (l : List ByteArray) : Prop := ∀ i j, i < j → j < l.length → sLt (l.getD j default) (l.getD i default) = false
theorem compToS_spec {s : List ByteArray} (hs : OrdS s) : ∀ m, m ≤ s.length → AscS (compToS s m) ∧ ∀ x, x ∈ compToS s m ↔ ∃ i, i < m ∧ s.getD i default = x
  | 0, _ => ⟨List.Pairwise.nil, fun x => by simp [compToS]⟩
  | m + 1, hm => by
    obtain ⟨h1, h2⟩ := compToS_spec hs m (by omega)
    unfold compToS
    split
    · rename_i hne
      refine ⟨List.pairwise_append.2 ⟨h1, by simp, fun a ha b hb => ?_⟩, fun x => ?_⟩
      · simp only [List.mem_singleton] at hb
        subst hb
        obtain ⟨i, hi, rfl⟩ := (h2 a).1 ha
        have hle := hs i m hi (by omega)
        by_cases e : s.getD i default = s.getD m default
        · exfalso
          have hne := hne.resolve_left (by omega)
          have h3 := hs (m - 1) m (by omega) (by omega)
          have h4 : sLt (s.getD (m - 1) default) (s.getD m default) = false := by
            by_cases ei : i = m - 1
            · subst ei; rw [e]; exact sLt_irrefl _
            · rw [← e]; exact hs i (m - 1) (by omega) (by omega)
          rcases sLt_total hne with h5 | h5
          · rw [h5] at h3; cases h3
          · rw [h5] at h4; cases h4
        · rcases sLt_total e with h5 | h5
          · exact h5
          · rw [h5] at hle; cases hle
      · rw [List.mem_append, h2, List.mem_singleton]
        constructor
        · rintro (⟨i, hi, e⟩ | e)
          · exact ⟨i, by omega, e⟩
          · exact ⟨m, by omega, e.symm⟩
        · rintro ⟨i, hi, e⟩
          by_cases ei : i = m
          · subst ei; exact .inr e.symm
          · exact .inl ⟨i, by omega, e⟩
    · rename_i hne
      have hne := not_or.1 hne
      have heq := Classical.not_not.1 hne.2
      refine ⟨h1, fun x => ?_⟩
      rw [h2]
      constructor
      · rintro ⟨i, hi, e⟩; exact ⟨i, by omega, e⟩
      · rintro ⟨i, hi, e⟩
        by_cases ei : i = m
        · subst ei; exact ⟨i - 1, by omega, by rw [← heq]; exact e⟩
        · exact ⟨i, by omega, e⟩
def sortedS (l : List ByteArray) : List ByteArray := l.mergeSort fun x y => !sLt y x
theorem sortedS_ord (l : List ByteArray) : OrdS (sortedS l) := by
  have hp := List.pairwise_mergeSort (le := fun x y : ByteArray => !sLt y x) (fun a b c h1 h2 => by
    simp only [Bool.not_eq_true'] at *
    cases h3 : sLt c a with
    | false => rfl
    | true =>
      exfalso
      by_cases e : a = b
      · subst e; rw [h3] at h2; cases h2
      · rcases sLt_total e with h4 | h4
        · have := sLt_trans h3 h4; rw [this] at h2; cases h2
        · rw [h4] at h1; cases h1) (fun a b => by
    simp only [Bool.or_eq_true, Bool.not_eq_true']
    cases h : sLt b a with
    | false => exact .inl rfl
    | true => exact .inr (sLt_asymm h)) l
  intro i j hij hj
  have hj' : j < (l.mergeSort fun x y => !sLt y x).length := hj
  have := List.pairwise_iff_getElem.1 hp i j (by omega) hj' hij
  simp only [Bool.not_eq_true'] at this
  unfold sortedS
  rw [getD_getElem _ _ hj', getD_getElem _ _ (show i < (l.mergeSort fun x y => !sLt y x).length from by omega)]
  exact this
theorem sortedS_length (l : List ByteArray) : (sortedS l).length = l.length := List.length_mergeSort _
theorem compS_sorted (l : List ByteArray) : compToS (sortedS l) l.length = sortS l := by
  obtain ⟨h1, h2⟩ := compToS_spec (sortedS_ord l) l.length (by rw [sortedS_length]; exact Nat.le_refl _)
  refine ascS_ext h1 (ascS_sortS l) fun x => ?_
  rw [h2, mem_sortS, ← List.mem_mergeSort (le := fun x y => !sLt y x)]
  show _ ↔ x ∈ sortedS l
  rw [List.mem_iff_getElem]
  constructor
  · rintro ⟨i, hi, e⟩
    exact ⟨i, by rw [sortedS_length]; exact hi, by simpa [List.getD, show i < (sortedS l).length from by rw [sortedS_length]; exact hi] using e⟩
  · rintro ⟨i, hi, e⟩
    exact ⟨i, by rwa [sortedS_length] at hi, by simp [List.getD, hi, e]⟩
end Go.Abs

namespace Go.Abs
variable [Globals]
structure Lck where
  name : ByteArray
  rank : Int
  cond : Ex
  latch : Bool
  force : List Item
  forbid : List Item
  deriving Inhabited
end Go.Abs

namespace Go.Abs
open Go.Proofs Go.RowKit
set_option maxRecDepth 10000
section
variable {H : Type} {enc : TypeId × Value → H} {w : World} {bulk : DataW H → Nat}
theorem op_Span (hB : BulkOk bulk) : Opens enc Tryz.prog w bulk BB 71 cSpn (fun _ => True) :=
  (Opens.struct hB Tryz.underlying71 (by kernel_rfl) (.cons (size := 1) rfl (by kernel_rfl) op_int (.cons (size := 1) rfl (by kernel_rfl) op_int .nil))).imp (fun x => ⟨x.1, x.2.1⟩) (fun _ => rfl) (fun _ _ => trivial)
theorem op_l_Span (hB : BulkOk bulk) : Opens enc Tryz.prog w bulk BB 44 (fun l : List Spn => [roL 2 cSpn l]) smallL :=
  (Opens.slice hB Tryz.underlying44 (by kernel_rfl) (by decide) (op_Span hB)).imp id (fun _ => rfl) (fun _ h => h.1)
end
end Go.Abs

namespace Go.Abs
open Go.Proofs
set_option maxRecDepth 10000
theorem ac_r22_SameKeys (a b : List Key) (ha : a.length ≤ 4194304) : AC Tryz.prog 16 [.pv (roL 3 cKey a), .pv (roL 3 cKey b)] [] (.pv (vbool (decide (a = b)))) [] := by
  refine AC.of_awp (T := T) T_ok hm Tryz.call16 Tryz.func16 rfl rfl rfl ?_
  conv => whnf
  refine ⟨fun h => ?_, fun h => ?_⟩ <;> (try simp only [decide_eq_true_eq, decide_eq_false_iff_not, Bool.not_eq_true', Bool.not_eq_false', Int.toNat_natCast, beq_iff_eq, decide_eq_decide, beq_eq_false_iff_ne, ne_eq, reduceCtorEq] at h) <;> (conv => whnf)
  · exact PSub.lit_sb (by symm; simp only [decide_eq_false_iff_not]; intro e; exact h (by rw [e]))
  have hl := h
  refine loop_k (ι := Nat) [0, 1] [] (fun k => k ≤ a.length ∧ (∀ j, j < k → a.getD j default = b.getD j default)) (fun k => a.length - k) 0 (fun k => [(5, .pv (vint k))]) (fun _ => []) [] ⟨Nat.zero_le _, fun j h => absurd h (by omega)⟩ ?_ (fun k hk => ?_)
  · (repeat' (first | exact PSub.rfl | exact rfl | exact PSubs.rfl | exact trivial | exact PSub.lit_sb rfl | refine And.intro ?_ ?_))
  obtain ⟨hkn, hinv⟩ := hk
  conv => whnf
  repeat (any_goals (first
    | (refine ⟨fun (h : (_ : Bool) = true) => ?_, fun (h : (_ : Bool) = false) => ?_⟩ <;> (try simp only [decide_eq_true_eq, decide_eq_false_iff_not, Bool.not_eq_true', Bool.not_eq_false', Int.toNat_natCast, beq_iff_eq, decide_eq_decide, beq_eq_false_iff_ne, ne_eq, reduceCtorEq] at h) <;> (conv => whnf))
    | (refine And.intro (by (try simp only [Int.toNat_natCast]); omega) ?_; conv => whnf)
    | (refine And.intro (show (_ : Bool) = true from by kernel_rfl) ?_; conv => whnf)
    | (refine .inl ⟨wrap64 (by omega), ?_⟩; conv => whnf)))
  all_goals try rw [key_eq] at h
  all_goals try simp only [decide_eq_true_eq, decide_eq_false_iff_not] at h
  · exact PSub.lit_sb (by symm; simp only [decide_eq_false_iff_not]; intro e; exact h (by rw [e]))
  · refine ⟨k + 1, [], ⟨by omega, ?_⟩, by first | omega | (dsimp only; omega), ?_⟩
    rotate_left
    · (repeat' (first | exact PSub.rfl | exact rfl | exact PSubs.rfl | exact trivial | exact PSub.lit_sb rfl | refine And.intro ?_ ?_))
    intro j hj
    by_cases e : j = k
    · subst e; first | exact h | simpa [-List.getD_eq_getElem?_getD] using h | simp_all [-List.getD_eq_getElem?_getD]
    · exact hinv j (by omega)
  · exact PSub.lit_sb (by symm; simp only [decide_eq_true_eq]; exact list_eq (by omega) fun i hi => hinv i (by omega))
structure Op where
  H : Hom
  L : List Item
  K : Key
  V : Val
  deriving Inhabited
section
variable {H : Type} {enc : TypeId × Value → H} {w : World} {bulk : DataW H → Nat}
end
end Go.Abs

namespace Go.Abs
open Go.Proofs
set_option maxRecDepth 10000
structure Checked (c : Clu) : Prop where
  distinct : ∀ i j, i < j → j < c.attrs.length → (c.attrs.getD i default).name ≠ (c.attrs.getD j default).name
  attrs : c.attrs.length ≤ 12
  cmds : ∀ i, i < c.commands.length → cmdE c i = 0
  defs : ∀ i, i < c.attrs.length → defE (c.attrs.getD i default) = 0
theorem checkE_ok {c : Clu} (h : checkE c = 0) : Checked c := by
  unfold checkE at h
  split at h
  · cases h
  split at h
  · cases h
  rename_i hw
  split at h
  · contradiction
  rename_i ha
  split at h
  · contradiction
  rename_i hc
  have ha := firstE_zero (Classical.not_not.1 ha)
  refine ⟨fun i j hi hj e => ?_, ?_, firstE_zero (Classical.not_not.1 hc), fun i hi => ?_⟩
  · have := ha j hj
    unfold attrE at this
    split at this
    · contradiction
    · rw [if_pos (anyN_true hi (by simpa [-List.getD_eq_getElem?_getD] using e))] at this
      cases this
  · rw [Bool.not_eq_true] at hw
    simp only [wideB, Bool.or_eq_false_iff, decide_eq_false_iff_not] at hw
    omega
  · have := ha i hi
    unfold attrE at this
    split at this
    · contradiction
    · rename_i h0; exact Classical.not_not.1 h0
end Go.Abs

namespace Go.Abs
open Go.Proofs
set_option maxRecDepth 10000
structure Call where
  H : Hom
  L : List Item
  Dev : Int
  C : ByteArray
  Name : ByteArray
  Param : Val
  deriving Inhabited
theorem firstC_checked {H : Hom} (h : homE H = 0) {s : ByteArray} {c : Clu} (hc : firstC H.clusters s = some c) : Checked c := by
  have hm := List.mem_of_find?_eq_some hc
  obtain ⟨i, hi, rfl⟩ := List.getElem_of_mem hm
  have := allE_distinct (homE_all h) i hi
  unfold cluE at this
  split at this
  · contradiction
  · rename_i h0
    have e : H.clusters.getD i default = H.clusters[i] := by simp [List.getD, hi]
    rw [← e]
    exact checkE_ok (Classical.not_not.1 h0)
theorem keysL_48 {H : Hom} {id : Int} : (keysL H id).length ≤ 48 := by
  cases hb : findB H id with
  | false => rw [keysL, findD_none hb]; exact Nat.zero_le _
  | true =>
    have hv : homE H = 0 := by simp only [findB, Bool.and_eq_true, decide_eq_true_eq] at hb; exact hb.1
    have key : ∀ k, k ≤ (findD H id).clusters.length → (keysTo (firstC H.clusters) id (findD H id).clusters k).length ≤ k * 12 := by
      intro k
      induction k with
      | zero => intro _; simp [keysTo]
      | succ k ih =>
        intro hk
        rw [keysTo_succ (by omega), List.length_append]
        have := ih (by omega)
        have : (keysOf1 (firstC H.clusters) id ((findD H id).clusters.getD k default)).length ≤ 12 := by
          simp only [keysOf1, attrsOf, List.length_map]
          split
          · rename_i c e; exact (firstC_checked hv e).attrs
          · exact Nat.zero_le _
        omega
    have h4 := @findD_length H id
    have := key _ (Nat.le_refl _)
    rw [keysTo, List.take_length] at this
    have e : keysL H id = (findD H id).clusters.flatMap (keysOf1 (firstC H.clusters) id) := rfl
    rw [← e] at this
    omega
section
variable {H : Type} {enc : TypeId × Value → H} {w : World} {bulk : DataW H → Nat}
end
end Go.Abs

namespace Go.Abs
open Go.Proofs
variable [Globals]
theorem forI_all {ρ σ : Type} {f : Nat → σ → ρ ⊕ σ} {n : Nat} {s s' : σ} {p : Nat → Prop} (h : forI f n 0 s = .inr s') (hp : ∀ i s s', i < n → f i s = .inr s' → p i) : ∀ i, i < n → p i := by
  have := forI_inv (f := f) (fun k _ => ∀ i, i < k → p i) n 0 s (fun i hi => absurd hi (by omega)) (fun i s s' _ h2 h3 h4 j hj => by
    by_cases e : j = i
    · subst e; exact hp j s s' (by omega) h4
    · exact h3 j (by omega)) s' h
  rw [Nat.zero_add] at this
  exact this
theorem cap_parts {f : ByteArray → Option Clu} {d : Dev} (h : capE f d = 0) : ∀ i, i < d.clusters.length → (f (d.clusters.getD i default)).isSome = true ∧ ¬ idxOf d.clusters (d.clusters.getD i default) < i := by
  unfold capE at h
  split at h
  · cases h
  split at h
  · rename_i e he
    exfalso
    subst h
    have key : ∀ (n k : Nat) (s : Int), forI (capStep f d) n k s ≠ .inl 0 := by
      intro n
      induction n with
      | zero => intro k s hh; cases hh
      | succ n ih =>
        intro k s hh
        rw [forI] at hh
        unfold capStep at hh
        split at hh
        · rename_i r hr
          split at hr
          · cases hr; cases hh
          · split at hr
            · cases hr; cases hh
            · cases hr
        · exact ih _ _ hh
    exact key _ _ _ he
  · rename_i n he
    refine forI_all he fun i s s' _ hs => ?_
    unfold capStep at hs
    split at hs
    · cases hs
    · rename_i c hc
      split at hs
      · cases hs
      · rename_i h2; exact ⟨by rw [hc]; rfl, h2⟩
theorem cap_distinct {f : ByteArray → Option Clu} {d : Dev} (h : capE f d = 0) : d.clusters.Nodup := by
  rw [List.nodup_iff_pairwise_ne, List.pairwise_iff_getElem]
  intro i j hi hj hij e
  have h2 := (cap_parts h j hj).2
  rw [idxOf_lt hj] at h2
  apply h2
  unfold memN
  refine anyN_true hij ?_
  simp [List.getD, hi, hj, e]
theorem clu_nodup {c : Clu} (h : Checked c) : (c.attrs.map Attr.name).Nodup := by
  rw [List.nodup_iff_pairwise_ne, List.pairwise_iff_getElem]
  intro i j hi hj hij e
  rw [List.length_map] at hi hj
  apply h.distinct i j hij hj
  simpa [List.getD, hi, hj] using e
theorem mem_keysL {H : Hom} {d : Int} {k : Key} : k ∈ keysL H d ↔ k.dev = d ∧ k.cluster ∈ (findD H d).clusters ∧ ∃ a ∈ attrsOf (firstC H.clusters k.cluster), a.name = k.attr := by
  unfold keysL keysOf1
  rw [List.mem_flatMap]
  constructor
  · rintro ⟨s, hs, hk⟩
    obtain ⟨a, ha, rfl⟩ := List.mem_map.1 hk
    exact ⟨rfl, hs, a, ha, rfl⟩
  · rintro ⟨rfl, hs, a, ha, e⟩
    refine ⟨k.cluster, hs, List.mem_map.2 ⟨a, ha, ?_⟩⟩
    rw [e]
theorem keysL_nodup (H : Hom) (d : Int) : (keysL H d).Nodup := by
  cases hb : findB H d with
  | false => rw [keysL, findD_none hb]; exact List.nodup_nil
  | true =>
    have hcap := findD_cap hb
    have hv : homE H = 0 := by simp only [findB, Bool.and_eq_true, decide_eq_true_eq] at hb; exact hb.1
    have hn := cap_distinct hcap
    unfold keysL
    generalize (findD H d).clusters = l at hn
    induction l with
    | nil => exact List.nodup_nil
    | cons s l ih =>
      obtain ⟨h1, h2⟩ := List.nodup_cons.1 hn
      rw [List.flatMap_cons, List.nodup_append]
      refine ⟨?_, ih h2, fun a ha b hb e => ?_⟩
      · unfold keysOf1 attrsOf
        split
        · rename_i c hc
          have := clu_nodup (firstC_checked hv hc)
          rw [List.nodup_iff_pairwise_ne, List.pairwise_map] at *
          refine this.imp fun hne e => hne ?_
          exact congrArg Key.attr e
        · exact List.nodup_nil
      · unfold keysOf1 at ha
        obtain ⟨x, _, rfl⟩ := List.mem_map.1 ha
        obtain ⟨t, ht, hb2⟩ := List.mem_flatMap.1 hb
        unfold keysOf1 at hb2
        obtain ⟨y, _, rfl⟩ := List.mem_map.1 hb2
        have : s = t := congrArg Key.cluster e
        rw [this] at h1; exact h1 ht
end Go.Abs

namespace Go.Abs
open Go.Proofs
variable [Globals]
structure Rqs where
  kind : Int
  nonce : Int
  key : Key
  name : ByteArray
  value : Val
  text : ByteArray
  deriving Inhabited
def cRqs (q : Rqs) : List PV := [vint q.kind, vint q.nonce] ++ cKey q.key ++ [vstr q.name] ++ cVal q.value ++ [vstr q.text]
def noMbr : Mem := ⟨⟨#[]⟩, 0, [], [], false⟩
def spnB (s : Spn) : Bool := decide (0 ≤ s.fr) && (decide (s.fr < s.to) && decide (s.to ≤ 10080))
def spnE (l : List Spn) : Int := if 256 < l.length then 3 else if anyN l.length (fun i => !spnB (l.getD i default)) = true then 2 else 0
def wrapW (m : Int) : Int := if m.tmod 10080 < 0 then m.tmod 10080 + 10080 else m.tmod 10080
def hasW (l : List Spn) (m : Int) : Bool := anyN l.length fun i => spnB (l.getD i default) && (decide ((l.getD i default).fr ≤ wrapW m) && decide (wrapW m < (l.getD i default).to))
def inRoom (H : Hom) (r : ByteArray) : Bool := anyN H.devices.length fun i => decide ((H.devices.getD i default).room = r)
def roomE (H : Hom) (r : ByteArray) : Int := if validName r = false then 10 else if inRoom H r = false then 8 else 0
def ownEnt (H : Hom) (x : Mem) : Int :=
  if x.role < 1 ∨ 4 < x.role then 2 else if spnE x.spans ≠ 0 then spnE x.spans
  else if ¬ (x.role = 1 ↔ 0 < x.spans.length) ∨ (3 ≤ x.role ∧ 0 < x.rooms.length) then 4
  else if 256 < x.rooms.length then 3 else firstE x.rooms.length fun i => roomE H (x.rooms.getD i default)
def memE (H : Hom) (l : List Mem) (i : Nat) : Int :=
  if validName (l.getD i default).name = false then 10 else if anyN i (fun j => decide ((l.getD j default).name = (l.getD i default).name)) = true then 9 else ownEnt H (l.getD i default)
def memsE (H : Hom) (l : List Mem) : Int :=
  if homE H ≠ 0 then homE H else if l.length < 1 ∨ 16 < l.length then 3 else if firstE l.length (memE H l) ≠ 0 then firstE l.length (memE H l)
  else if anyN l.length (fun i => decide ((l.getD i default).role = 4)) = false then 8 else 0
def mbrAt (l : List Mem) (name : ByteArray) : Nat := firstI l.length fun i => decide ((l.getD i default).name = name)
def mbrOf (l : List Mem) (name : ByteArray) : Mem := if mbrAt l name < l.length then l.getD (mbrAt l name) default else noMbr
def lvl (x : Mem) : Int := if x.role = 1 then 0 else if x.role = 2 then 1 else if x.role = 3 then 2 else 3
def herB (x : Mem) (m : Int) : Bool := if x.role = 1 then decide (0 ≤ m) && hasW x.spans m else true
def safeR (H : Hom) (q : Rqs) : Bool := if q.kind = 2 then safeB H q.key else anyN (keysL H q.key.dev).length fun i => decide (((keysL H q.key.dev).getD i default).cluster = q.key.cluster) && safeB H ((keysL H q.key.dev).getD i default)
def ctrlE (H : Hom) (x : Mem) (q : Rqs) : Int :=
  if ¬ devAt H.devices q.key.dev < H.devices.length then 8
  else if 0 < x.rooms.length ∧ decide (0 ≤ idxOf x.rooms (findD H q.key.dev).room) = false then 16
  else if lvl x < 2 ∧ safeR H q = true then 16 else 0
def leastQ (k : Int) : Int := if k = 4 then 1 else if k = 5 then 2 else if k = 6 ∨ k = 7 then 3 else 0
def mayE (H : Hom) (x : Mem) (m : Int) (q : Rqs) : Int :=
  if q.kind < 1 ∨ 7 < q.kind then 7 else if herB x m = false then 17
  else if q.kind = 2 ∨ q.kind = 3 then ctrlE H x q else if lvl x < leastQ q.kind then 16 else 0
def canE (H : Hom) (l : List Mem) (name : ByteArray) (m : Int) (q : Rqs) : Int :=
  if memsE H l ≠ 0 then memsE H l else if ¬ mbrAt l name < l.length then 8 else mayE H (mbrOf l name) m q
def wrQ (k : Key) : Rqs := ⟨2, 0, k, ⟨#[]⟩, ⟨0, 0, ⟨#[]⟩⟩, ⟨#[]⟩⟩
def rightB (H : Hom) (x : Mem) (m : Int) (k : Key) : Bool := ((findA H k).getD noAttr).writable && decide (mayE H x m (wrQ k) = 0)
def rightA (H : Hom) (x : Mem) (m : Int) : List Key := H.devices.flatMap fun d => (keysL H d.id).filter (rightB H x m)
def rightsL (H : Hom) (l : List Mem) (name : ByteArray) (m : Int) : List Key :=
  if mbrAt l name < l.length ∧ memsE H l = 0 then sortK (rightA H (mbrOf l name) m) else []
def homeN (l : List Mem) : List ByteArray := (l.filter Mem.home).map Mem.name
def presL (l : List Mem) : List ByteArray := sortS (homeN l)
structure MbrOk (H : Hom) (l : List Mem) : Prop where
  hom : homE H = 0
  len : 1 ≤ l.length ∧ l.length ≤ 16
  each : ∀ i, i < l.length → memE H l i = 0
  owner : ∃ i, i < l.length ∧ (l.getD i default).role = 4
theorem mems_ok {H : Hom} {l : List Mem} : memsE H l = 0 ↔ MbrOk H l := by
  unfold memsE
  constructor
  · intro h
    split at h
    · contradiction
    rename_i h1
    split at h
    · cases h
    rename_i h2
    split at h
    · contradiction
    rename_i h3
    split at h
    · cases h
    rename_i h4
    have h4 : (anyN l.length fun i => decide ((l.getD i default).role = 4)) = true := by simpa using h4
    obtain ⟨i, hi, hr⟩ := anyN_iff.1 h4
    exact ⟨Classical.not_not.1 h1, by omega, firstE_zero (Classical.not_not.1 h3), i, hi, of_decide_eq_true hr⟩
  · rintro ⟨h1, h2, h3, i, hi, hr⟩
    rw [if_neg (by rw [h1]; decide), if_neg (by omega), if_neg (by rw [firstE_none h3]; decide), if_neg]
    rw [anyN_true hi (decide_eq_true hr)]; decide
end Go.Abs

namespace Go.Abs
open Go.Proofs
variable [Globals]
theorem ids_asc {H : Hom} (h : homE H = 0) : ∀ j, j < H.devices.length → ∀ i, i < j → (H.devices.getD i default).id < (H.devices.getD j default).id := by
  intro j
  induction j with
  | zero => intro _ i hi; omega
  | succ j ih =>
    intro hj i hi
    have h1 := homE_dev h hj
    unfold devE at h1
    split at h1
    · cases h1
    split at h1
    · cases h1
    rename_i h2
    have h3 : (H.devices.getD j default).id < (H.devices.getD (j + 1) default).id := by
      rw [Nat.add_sub_cancel] at h2
      have := fun h => h2 ⟨Nat.succ_pos _, h⟩
      omega
    by_cases e : i = j
    · subst e; exact h3
    · exact Int.lt_trans (ih (by omega) i (by omega)) h3
theorem ids_nodup {H : Hom} (h : homE H = 0) : (H.devices.map Dev.id).Nodup := by
  rw [List.nodup_iff_pairwise_ne, List.pairwise_iff_getElem]
  intro i j hi hj hij e
  rw [List.length_map] at hi hj
  have := ids_asc h j hj i hij
  rw [getD_getElem _ _ hi, getD_getElem _ _ hj] at this
  simp only [List.getElem_map] at e
  omega
theorem rights_nodup {H : Hom} {x : Mem} {m : Int} (h : homE H = 0) : (rightA H x m).Nodup := by
  have hn := ids_nodup h
  unfold rightA
  generalize H.devices = l at hn
  induction l with
  | nil => exact List.nodup_nil
  | cons d l ih =>
    rw [List.map_cons] at hn
    obtain ⟨h1, h2⟩ := List.nodup_cons.1 hn
    rw [List.flatMap_cons, List.nodup_append]
    refine ⟨(keysL_nodup H d.id).filter _, ih h2, fun a ha b hb e => ?_⟩
    have ha := (mem_keysL.1 (List.mem_filter.1 ha).1).1
    obtain ⟨t, ht, hb⟩ := List.mem_flatMap.1 hb
    have hb := (mem_keysL.1 (List.mem_filter.1 hb).1).1
    apply h1
    rw [List.mem_map]
    exact ⟨t, ht, by rw [← hb, ← e, ha]⟩
end Go.Abs

namespace Go.Abs
open Go.Proofs
set_option maxRecDepth 10000
theorem ac_sched_valid (s : Spn) : AC Tryz.prog 93 [.pv (.agg (cSpn s))] [] (.pv (vbool (spnB s))) [] := by
  refine AC.of_awp (T := T) T_ok hm Tryz.call93 Tryz.func93 rfl rfl rfl ?_
  conv => whnf
  repeat (any_goals (first
    | (refine ⟨fun (h : (_ : Bool) = true) => ?_, fun (h : (_ : Bool) = false) => ?_⟩ <;> (try simp only [decide_eq_true_eq, decide_eq_false_iff_not, Bool.not_eq_true', Bool.not_eq_false', Int.toNat_natCast, beq_iff_eq, decide_eq_decide, beq_eq_false_iff_ne, ne_eq, reduceCtorEq] at h) <;> (conv => whnf))
    | (refine And.intro (by (try simp only [Int.toNat_natCast]); omega) ?_; conv => whnf)
    | (refine And.intro (show (_ : Bool) = true from by kernel_rfl) ?_; conv => whnf)
    | (refine .inl ⟨wrap64 (by omega), ?_⟩; conv => whnf)))
  all_goals first
    | contradiction
    | (exfalso; omega)
    | exact PSub.rfl
    | (refine PSub.lit_sb ?_; (first | (simp [spnB, *]; done) | (simp_all [spnB]; done) | ((try simp only [spnB]); (repeat' split) <;> (try simp only [Bool.false_eq, Bool.true_eq, Bool.and_eq_false_iff, decide_eq_false_iff_not, Bool.and_eq_true, decide_eq_true_eq, decide_eq_decide]) <;> first | rfl | omega | (simp_all; done) | (simp_all; omega))))
    | (refine PSub.sb ?_; (first | (simp [spnB, *]; done) | (simp_all [spnB]; done) | ((try simp only [spnB]); (repeat' split) <;> (try simp only [Bool.false_eq, Bool.true_eq, Bool.and_eq_false_iff, decide_eq_false_iff_not, Bool.and_eq_true, decide_eq_true_eq, decide_eq_decide]) <;> first | rfl | omega | (simp_all; done) | (simp_all; omega))))
    | (refine PSub.sb_lit ?_; (first | (simp [spnB, *]; done) | (simp_all [spnB]; done) | ((try simp only [spnB]); (repeat' split) <;> (try simp only [Bool.false_eq, Bool.true_eq, Bool.and_eq_false_iff, decide_eq_false_iff_not, Bool.and_eq_true, decide_eq_true_eq, decide_eq_decide]) <;> first | rfl | omega | (simp_all; done) | (simp_all; omega))))
    | (refine PSub.int ?_; (first | (simp [spnB, *]; done) | (simp_all [spnB]; done) | ((try simp only [spnB]); (repeat' split) <;> (try simp only [Bool.false_eq, Bool.true_eq, Bool.and_eq_false_iff, decide_eq_false_iff_not, Bool.and_eq_true, decide_eq_true_eq, decide_eq_decide]) <;> first | rfl | omega | (simp_all; done) | (simp_all; omega))))
    | skip
theorem ac_sched_Check (l : List Spn) (hl : smallL l) : AC Tryz.prog 68 [.pv (roL 2 cSpn l)] [] (.pv (vint (spnE l))) [] := by
  have hl2 : l.length ≤ 1048576 := hl
  refine AC.of_awp (T := T) T_ok hm Tryz.call68 Tryz.func68 rfl rfl rfl ?_
  conv => whnf
  refine ⟨fun h => ?_, fun h => ?_⟩ <;> (try simp only [decide_eq_true_eq, decide_eq_false_iff_not, Bool.not_eq_true', Bool.not_eq_false', Int.toNat_natCast, beq_iff_eq, decide_eq_decide, beq_eq_false_iff_ne, ne_eq, reduceCtorEq] at h) <;> (conv => whnf)
  · exact PSub.int (by rw [spnE, if_pos (by omega)])
  rw [spnE, if_neg (by omega)]
  refine loop_k (ι := Nat) [8, 9] [] (fun k => k ≤ l.length ∧ (∀ j, j < k → (!spnB (l.getD j default)) = false)) (fun k => l.length - k) 0 (fun k => [(10, .pv (vint k))]) (fun _ => []) [] ⟨Nat.zero_le _, fun j h => absurd h (by omega)⟩ ?_ (fun k hk => ?_)
  · (repeat' (first | exact PSub.rfl | exact rfl | exact PSubs.rfl | exact trivial | exact PSub.lit_sb rfl | refine And.intro ?_ ?_))
  obtain ⟨hkn, hinv⟩ := hk
  conv => whnf
  repeat (any_goals (first
    | (refine ⟨fun (h : (_ : Bool) = true) => ?_, fun (h : (_ : Bool) = false) => ?_⟩ <;> (try simp only [decide_eq_true_eq, decide_eq_false_iff_not, Bool.not_eq_true', Bool.not_eq_false', Int.toNat_natCast, beq_iff_eq, decide_eq_decide, beq_eq_false_iff_ne, ne_eq, reduceCtorEq] at h) <;> (conv => whnf))
    | (refine .inl ⟨_, ac_sched_valid (l.getD k default), ?_⟩; conv => whnf)
    | (refine And.intro (by (try simp only [Int.toNat_natCast]); omega) ?_; conv => whnf)
    | (refine And.intro (show (_ : Bool) = true from by kernel_rfl) ?_; conv => whnf)
    | (refine .inl ⟨wrap64 (by omega), ?_⟩; conv => whnf)))
  · refine PSub.int ?_
    rw [if_pos (anyN_true (k := k) (by omega) (by rw [h]; rfl))]
  · refine ⟨k + 1, [], ⟨by omega, ?_⟩, by first | omega | (dsimp only; omega), ?_⟩
    rotate_left
    · (repeat' (first | exact PSub.rfl | exact rfl | exact PSubs.rfl | exact trivial | exact PSub.lit_sb rfl | refine And.intro ?_ ?_))
    intro j hj
    by_cases e : j = k
    · subst e; rw [h]; rfl
    · exact hinv j (by omega)
  · refine PSub.int ?_
    rw [anyN_false (fun j hj => hinv j (by omega))]; rfl
theorem ac_sched_wrap (m : Int) : AC Tryz.prog 176 [.pv (vint m)] [] (.pv (vint (wrapW m))) [] := by
  refine AC.of_awp (T := T) T_ok hm Tryz.call176 Tryz.func176 rfl rfl rfl ?_
  conv => whnf
  repeat (any_goals (first
    | (refine ⟨fun (h : (_ : Bool) = true) => ?_, fun (h : (_ : Bool) = false) => ?_⟩ <;> (try simp only [decide_eq_true_eq, decide_eq_false_iff_not, Bool.not_eq_true', Bool.not_eq_false', Int.toNat_natCast, beq_iff_eq, decide_eq_decide, beq_eq_false_iff_ne, ne_eq, reduceCtorEq] at h) <;> (conv => whnf))
    | (refine And.intro (by (try simp only [Int.toNat_natCast]); omega) ?_; conv => whnf)
    | (refine And.intro (show (_ : Bool) = true from by kernel_rfl) ?_; conv => whnf)
    | (refine .inl ⟨wrap64 (by omega), ?_⟩; conv => whnf)))
  · have hr : -10080 < m.tmod 10080 := by have := Int.lt_tmod_of_pos m (b := 10080) (by decide); omega
    refine .inl ⟨wrap64 (by omega), ?_⟩
    conv => whnf
    refine PSub.int ?_
    unfold wrapW; rw [if_pos h]
  · refine PSub.int ?_
    unfold wrapW; rw [if_neg h]
theorem ac_sched_Has (l : List Spn) (m : Int) (hl : smallL l) : AC Tryz.prog 175 [.pv (roL 2 cSpn l), .pv (vint m)] [] (.pv (vbool (hasW l m))) [] := by
  have hl2 : l.length ≤ 1048576 := hl
  refine AC.of_awp (T := T) T_ok hm Tryz.call175 Tryz.func175 rfl rfl rfl ?_
  conv => whnf
  refine .inl ⟨_, ac_sched_wrap m, ?_⟩
  conv => whnf
  refine loop_k (ι := Nat) [1, 9, 10] [] (fun k => k ≤ l.length ∧ (∀ j, j < k → (spnB (l.getD j default) && (decide ((l.getD j default).fr ≤ wrapW m) && decide (wrapW m < (l.getD j default).to))) = false)) (fun k => l.length - k) 0 (fun k => [(11, .pv (vint k))]) (fun _ => []) [] ⟨Nat.zero_le _, fun j h => absurd h (by omega)⟩ ?_ (fun k hk => ?_)
  · (repeat' (first | exact PSub.rfl | exact rfl | exact PSubs.rfl | exact trivial | exact PSub.lit_sb rfl | refine And.intro ?_ ?_))
  obtain ⟨hkn, hinv⟩ := hk
  conv => whnf
  repeat (any_goals (first
    | (refine ⟨fun (h : (_ : Bool) = true) => ?_, fun (h : (_ : Bool) = false) => ?_⟩ <;> (try simp only [decide_eq_true_eq, decide_eq_false_iff_not, Bool.not_eq_true', Bool.not_eq_false', Int.toNat_natCast, beq_iff_eq, decide_eq_decide, beq_eq_false_iff_ne, ne_eq, reduceCtorEq] at h) <;> (conv => whnf))
    | (refine .inl ⟨_, ac_sched_valid (l.getD k default), ?_⟩; conv => whnf)
    | (refine And.intro (by (try simp only [Int.toNat_natCast]); omega) ?_; conv => whnf)
    | (refine And.intro (show (_ : Bool) = true from by kernel_rfl) ?_; conv => whnf)
    | (refine .inl ⟨wrap64 (by omega), ?_⟩; conv => whnf)))
  · refine PSub.lit_sb ?_
    unfold hasW
    have := anyN_true (p := fun i => spnB (l.getD i default) && (decide ((l.getD i default).fr ≤ wrapW m) && decide (wrapW m < (l.getD i default).to))) (n := l.length) (k := k) (by omega) (by simp [*, -List.getD_eq_getElem?_getD])
    rw [this]
  · refine ⟨k + 1, [], ⟨by omega, ?_⟩, by first | omega | (dsimp only; omega), ?_⟩
    rotate_left
    · (repeat' (first | exact PSub.rfl | exact rfl | exact PSubs.rfl | exact trivial | exact PSub.lit_sb rfl | refine And.intro ?_ ?_))
    intro j hj
    by_cases e : j = k
    · subst e; simp [*, -List.getD_eq_getElem?_getD]; done
    · exact hinv j (by omega)
  · refine ⟨k + 1, [], ⟨by omega, ?_⟩, by first | omega | (dsimp only; omega), ?_⟩
    rotate_left
    · (repeat' (first | exact PSub.rfl | exact rfl | exact PSubs.rfl | exact trivial | exact PSub.lit_sb rfl | refine And.intro ?_ ?_))
    intro j hj
    by_cases e : j = k
    · subst e; simp [*, -List.getD_eq_getElem?_getD]; done
    · exact hinv j (by omega)
  · refine ⟨k + 1, [], ⟨by omega, ?_⟩, by first | omega | (dsimp only; omega), ?_⟩
    rotate_left
    · (repeat' (first | exact PSub.rfl | exact rfl | exact PSubs.rfl | exact trivial | exact PSub.lit_sb rfl | refine And.intro ?_ ?_))
    intro j hj
    by_cases e : j = k
    · subst e; simp [*, -List.getD_eq_getElem?_getD]; done
    · exact hinv j (by omega)
  · refine PSub.lit_sb ?_
    unfold hasW
    rw [anyN_false (fun j hj => hinv j (by omega))]
theorem ac_member_guest_present (l : List Spn) (m : Int) (hl : smallL l) : AC Tryz.prog 174 [.pv (.agg [roL 2 cSpn l]), .pv (vint m)] [] (.pv (vbool (decide (0 ≤ m) && hasW l m))) [] := by
  refine AC.of_awp (T := T) T_ok hm Tryz.call174 Tryz.func174 rfl rfl rfl ?_
  conv => whnf
  repeat (any_goals (first
    | (refine ⟨fun (h : (_ : Bool) = true) => ?_, fun (h : (_ : Bool) = false) => ?_⟩ <;> (try simp only [decide_eq_true_eq, decide_eq_false_iff_not, Bool.not_eq_true', Bool.not_eq_false', Int.toNat_natCast, beq_iff_eq, decide_eq_decide, beq_eq_false_iff_ne, ne_eq, reduceCtorEq] at h) <;> (conv => whnf))
    | (refine .inl ⟨_, ac_sched_Has l m hl, ?_⟩; conv => whnf)
    | (refine And.intro (by (try simp only [Int.toNat_natCast]); omega) ?_; conv => whnf)
    | (refine And.intro (show (_ : Bool) = true from by kernel_rfl) ?_; conv => whnf)
    | (refine .inl ⟨wrap64 (by omega), ?_⟩; conv => whnf)))
  all_goals first
    | contradiction
    | (exfalso; omega)
    | exact PSub.rfl
    | (refine PSub.lit_sb ?_; (first | (simp [hasW, *]; done) | (simp_all [hasW]; done) | ((try simp only [hasW]); (repeat' split) <;> (try simp only [Bool.false_eq, Bool.true_eq, Bool.and_eq_false_iff, decide_eq_false_iff_not, Bool.and_eq_true, decide_eq_true_eq, decide_eq_decide]) <;> first | rfl | omega | (simp_all; done) | (simp_all; omega))))
    | (refine PSub.sb ?_; (first | (simp [hasW, *]; done) | (simp_all [hasW]; done) | ((try simp only [hasW]); (repeat' split) <;> (try simp only [Bool.false_eq, Bool.true_eq, Bool.and_eq_false_iff, decide_eq_false_iff_not, Bool.and_eq_true, decide_eq_true_eq, decide_eq_decide]) <;> first | rfl | omega | (simp_all; done) | (simp_all; omega))))
    | (refine PSub.sb_lit ?_; (first | (simp [hasW, *]; done) | (simp_all [hasW]; done) | ((try simp only [hasW]); (repeat' split) <;> (try simp only [Bool.false_eq, Bool.true_eq, Bool.and_eq_false_iff, decide_eq_false_iff_not, Bool.and_eq_true, decide_eq_true_eq, decide_eq_decide]) <;> first | rfl | omega | (simp_all; done) | (simp_all; omega))))
    | (refine PSub.int ?_; (first | (simp [hasW, *]; done) | (simp_all [hasW]; done) | ((try simp only [hasW]); (repeat' split) <;> (try simp only [Bool.false_eq, Bool.true_eq, Bool.and_eq_false_iff, decide_eq_false_iff_not, Bool.and_eq_true, decide_eq_true_eq, decide_eq_decide]) <;> first | rfl | omega | (simp_all; done) | (simp_all; omega))))
    | skip
end Go.Abs

namespace Go.Abs
open Go.Proofs
set_option maxRecDepth 10000
theorem ix_anyM {n : Nat} {p : Nat → Bool} : decide (0 ≤ ixI n (firstI n p)) = anyN n p := by
  rcases firstI_cases (n := n) (p := p) with ⟨h1, h2, _⟩ | ⟨h1, h2⟩
  · rw [anyN_true h1 h2, ixI, if_pos h1]; exact decide_eq_true (by omega)
  · rw [anyN_false h2, h1, ixI, if_neg (Nat.lt_irrefl _)]; rfl
theorem ac_slices_IndexFunc_Member (l : List Mem) (n : Nat) (gb : List PV → Bool) (gi : List PV → Int) (hl : n ≤ 1048576) : AC Tryz.prog 56 [.pv (.ro 5 n fun i => cMem (l.getD i default)), .clo (fun xs => ∃ x : Mem, xs = [.agg (cMem x)]) true gb gi] [] (.pv (vint (ixI n (firstI n fun i => gb [.agg (cMem (l.getD i default))])))) [] := by
  refine AC.of_awp (T := T) T_ok hm Tryz.call56 Tryz.func56 rfl rfl rfl ?_
  conv => whnf
  refine loop_k (ι := Nat) [0, 1, 7] [] (fun k => k ≤ n ∧ (∀ j, j < k → gb [.agg (cMem (l.getD j default))] = false)) (fun k => n - k) 0 (fun k => [(8, .pv (vint k))]) (fun _ => []) [] ⟨Nat.zero_le _, fun j h => absurd h (by omega)⟩ ?_ (fun k hk => ?_)
  · (repeat' (first | exact PSub.rfl | exact rfl | exact PSubs.rfl | exact trivial | exact PSub.lit_sb rfl | refine And.intro ?_ ?_))
  obtain ⟨hkn, hinv⟩ := hk
  conv => whnf
  repeat (any_goals (first
    | (refine ⟨fun (h : (_ : Bool) = true) => ?_, fun (h : (_ : Bool) = false) => ?_⟩ <;> (try simp only [decide_eq_true_eq, decide_eq_false_iff_not, Bool.not_eq_true', Bool.not_eq_false', Int.toNat_natCast, beq_iff_eq, decide_eq_decide, beq_eq_false_iff_ne, ne_eq, reduceCtorEq] at h) <;> (conv => whnf))
    | (refine And.intro (by (try simp only [Int.toNat_natCast]); omega) ?_; conv => whnf)
    | (refine And.intro (show (_ : Bool) = true from by kernel_rfl) ?_; conv => whnf)
    | (refine .inl ⟨wrap64 (by omega), ?_⟩; conv => whnf)))
  refine ⟨⟨_, rfl⟩, ?_⟩
  conv => whnf
  repeat (any_goals (first
    | (refine ⟨fun (h : (_ : Bool) = true) => ?_, fun (h : (_ : Bool) = false) => ?_⟩ <;> (try simp only [decide_eq_true_eq, decide_eq_false_iff_not, Bool.not_eq_true', Bool.not_eq_false', Int.toNat_natCast, beq_iff_eq, decide_eq_decide, beq_eq_false_iff_ne, ne_eq, reduceCtorEq] at h) <;> (conv => whnf))
    | (refine And.intro (by (try simp only [Int.toNat_natCast]); omega) ?_; conv => whnf)
    | (refine And.intro (show (_ : Bool) = true from by kernel_rfl) ?_; conv => whnf)
    | (refine .inl ⟨wrap64 (by omega), ?_⟩; conv => whnf)))
  · exact PSub.int (by rw [firstI_at (k := k) (by omega) h hinv, ixI, if_pos (by omega)])
  · refine ⟨k + 1, [], ⟨by omega, ?_⟩, by first | omega | (dsimp only; omega), ?_⟩
    rotate_left
    · (repeat' (first | exact PSub.rfl | exact rfl | exact PSubs.rfl | exact trivial | exact PSub.lit_sb rfl | refine And.intro ?_ ?_))
    intro j hj
    by_cases e : j = k
    · subst e; exact h
    · exact hinv j (by omega)
  · exact PSub.int (by rw [firstI_none (fun j hj => hinv j (by omega)), ixI, if_neg (Nat.lt_irrefl _)])
theorem ac_slices_ContainsFunc_Member (l : List Mem) (n : Nat) (gb : List PV → Bool) (gi : List PV → Int) (hl : n ≤ 1048576) : AC Tryz.prog 35 [.pv (.ro 5 n fun i => cMem (l.getD i default)), .clo (fun xs => ∃ x : Mem, xs = [.agg (cMem x)]) true gb gi] [] (.pv (vbool (anyN n fun i => gb [.agg (cMem (l.getD i default))]))) [] := by
  refine AC.of_awp (T := T) T_ok hm Tryz.call35 Tryz.func35 rfl rfl rfl ?_
  conv => whnf
  repeat (any_goals (first
    | (refine ⟨fun (h : (_ : Bool) = true) => ?_, fun (h : (_ : Bool) = false) => ?_⟩ <;> (try simp only [decide_eq_true_eq, decide_eq_false_iff_not, Bool.not_eq_true', Bool.not_eq_false', Int.toNat_natCast, beq_iff_eq, decide_eq_decide, beq_eq_false_iff_ne, ne_eq, reduceCtorEq] at h) <;> (conv => whnf))
    | (refine .inl ⟨_, ac_slices_IndexFunc_Member l n gb gi hl, ?_⟩; conv => whnf)
    | (refine And.intro (by (try simp only [Int.toNat_natCast]); omega) ?_; conv => whnf)
    | (refine And.intro (show (_ : Bool) = true from by kernel_rfl) ?_; conv => whnf)
    | (refine .inl ⟨wrap64 (by omega), ?_⟩; conv => whnf)))
  exact PSub.sb ix_anyM
theorem ac_slices_IndexFunc_DevM (l : List Dev) (gb : List PV → Bool) (gi : List PV → Int) (hl : smallL l) : AC Tryz.prog 94 [.pv (roL 7 cDev l), .clo (fun xs => ∃ x : Dev, xs = [.agg (cDev x)]) true gb gi] [] (.pv (vint (ixI l.length (firstI l.length fun i => gb [.agg (cDev (l.getD i default))])))) [] := by
  have hl : l.length ≤ 1048576 := hl
  refine AC.of_awp (T := T) T_ok hm Tryz.call94 Tryz.func94 rfl rfl rfl ?_
  conv => whnf
  refine loop_k (ι := Nat) [0, 1, 7] [] (fun k => k ≤ l.length ∧ (∀ j, j < k → gb [.agg (cDev (l.getD j default))] = false)) (fun k => l.length - k) 0 (fun k => [(8, .pv (vint k))]) (fun _ => []) [] ⟨Nat.zero_le _, fun j h => absurd h (by omega)⟩ ?_ (fun k hk => ?_)
  · (repeat' (first | exact PSub.rfl | exact rfl | exact PSubs.rfl | exact trivial | exact PSub.lit_sb rfl | refine And.intro ?_ ?_))
  obtain ⟨hkn, hinv⟩ := hk
  conv => whnf
  repeat (any_goals (first
    | (refine ⟨fun (h : (_ : Bool) = true) => ?_, fun (h : (_ : Bool) = false) => ?_⟩ <;> (try simp only [decide_eq_true_eq, decide_eq_false_iff_not, Bool.not_eq_true', Bool.not_eq_false', Int.toNat_natCast, beq_iff_eq, decide_eq_decide, beq_eq_false_iff_ne, ne_eq, reduceCtorEq] at h) <;> (conv => whnf))
    | (refine And.intro (by (try simp only [Int.toNat_natCast]); omega) ?_; conv => whnf)
    | (refine And.intro (show (_ : Bool) = true from by kernel_rfl) ?_; conv => whnf)
    | (refine .inl ⟨wrap64 (by omega), ?_⟩; conv => whnf)))
  refine ⟨⟨_, rfl⟩, ?_⟩
  conv => whnf
  repeat (any_goals (first
    | (refine ⟨fun (h : (_ : Bool) = true) => ?_, fun (h : (_ : Bool) = false) => ?_⟩ <;> (try simp only [decide_eq_true_eq, decide_eq_false_iff_not, Bool.not_eq_true', Bool.not_eq_false', Int.toNat_natCast, beq_iff_eq, decide_eq_decide, beq_eq_false_iff_ne, ne_eq, reduceCtorEq] at h) <;> (conv => whnf))
    | (refine And.intro (by (try simp only [Int.toNat_natCast]); omega) ?_; conv => whnf)
    | (refine And.intro (show (_ : Bool) = true from by kernel_rfl) ?_; conv => whnf)
    | (refine .inl ⟨wrap64 (by omega), ?_⟩; conv => whnf)))
  · exact PSub.int (by rw [firstI_at (k := k) (by omega) h hinv, ixI, if_pos (by omega)])
  · refine ⟨k + 1, [], ⟨by omega, ?_⟩, by first | omega | (dsimp only; omega), ?_⟩
    rotate_left
    · (repeat' (first | exact PSub.rfl | exact rfl | exact PSubs.rfl | exact trivial | exact PSub.lit_sb rfl | refine And.intro ?_ ?_))
    intro j hj
    by_cases e : j = k
    · subst e; exact h
    · exact hinv j (by omega)
  · exact PSub.int (by rw [firstI_none (fun j hj => hinv j (by omega)), ixI, if_neg (Nat.lt_irrefl _)])
theorem ac_slices_ContainsFunc_DevM (l : List Dev) (gb : List PV → Bool) (gi : List PV → Int) (hl : smallL l) : AC Tryz.prog 69 [.pv (roL 7 cDev l), .clo (fun xs => ∃ x : Dev, xs = [.agg (cDev x)]) true gb gi] [] (.pv (vbool (anyN l.length fun i => gb [.agg (cDev (l.getD i default))]))) [] := by
  refine AC.of_awp (T := T) T_ok hm Tryz.call69 Tryz.func69 rfl rfl rfl ?_
  conv => whnf
  repeat (any_goals (first
    | (refine ⟨fun (h : (_ : Bool) = true) => ?_, fun (h : (_ : Bool) = false) => ?_⟩ <;> (try simp only [decide_eq_true_eq, decide_eq_false_iff_not, Bool.not_eq_true', Bool.not_eq_false', Int.toNat_natCast, beq_iff_eq, decide_eq_decide, beq_eq_false_iff_ne, ne_eq, reduceCtorEq] at h) <;> (conv => whnf))
    | (refine .inl ⟨_, ac_slices_IndexFunc_DevM l gb gi hl, ?_⟩; conv => whnf)
    | (refine And.intro (by (try simp only [Int.toNat_natCast]); omega) ?_; conv => whnf)
    | (refine And.intro (show (_ : Bool) = true from by kernel_rfl) ?_; conv => whnf)
    | (refine .inl ⟨wrap64 (by omega), ?_⟩; conv => whnf)))
  exact PSub.sb ix_anyM
theorem ac_slices_IndexFunc_Key (l : List Key) (gb : List PV → Bool) (gi : List PV → Int) (hl : smallL l) : AC Tryz.prog 146 [.pv (roL 3 cKey l), .clo (fun xs => ∃ x : Key, xs = [.agg (cKey x)]) true gb gi] [] (.pv (vint (ixI l.length (firstI l.length fun i => gb [.agg (cKey (l.getD i default))])))) [] := by
  have hl : l.length ≤ 1048576 := hl
  refine AC.of_awp (T := T) T_ok hm Tryz.call146 Tryz.func146 rfl rfl rfl ?_
  conv => whnf
  refine loop_k (ι := Nat) [0, 1, 7] [] (fun k => k ≤ l.length ∧ (∀ j, j < k → gb [.agg (cKey (l.getD j default))] = false)) (fun k => l.length - k) 0 (fun k => [(8, .pv (vint k))]) (fun _ => []) [] ⟨Nat.zero_le _, fun j h => absurd h (by omega)⟩ ?_ (fun k hk => ?_)
  · (repeat' (first | exact PSub.rfl | exact rfl | exact PSubs.rfl | exact trivial | exact PSub.lit_sb rfl | refine And.intro ?_ ?_))
  obtain ⟨hkn, hinv⟩ := hk
  conv => whnf
  repeat (any_goals (first
    | (refine ⟨fun (h : (_ : Bool) = true) => ?_, fun (h : (_ : Bool) = false) => ?_⟩ <;> (try simp only [decide_eq_true_eq, decide_eq_false_iff_not, Bool.not_eq_true', Bool.not_eq_false', Int.toNat_natCast, beq_iff_eq, decide_eq_decide, beq_eq_false_iff_ne, ne_eq, reduceCtorEq] at h) <;> (conv => whnf))
    | (refine And.intro (by (try simp only [Int.toNat_natCast]); omega) ?_; conv => whnf)
    | (refine And.intro (show (_ : Bool) = true from by kernel_rfl) ?_; conv => whnf)
    | (refine .inl ⟨wrap64 (by omega), ?_⟩; conv => whnf)))
  refine ⟨⟨_, rfl⟩, ?_⟩
  conv => whnf
  repeat (any_goals (first
    | (refine ⟨fun (h : (_ : Bool) = true) => ?_, fun (h : (_ : Bool) = false) => ?_⟩ <;> (try simp only [decide_eq_true_eq, decide_eq_false_iff_not, Bool.not_eq_true', Bool.not_eq_false', Int.toNat_natCast, beq_iff_eq, decide_eq_decide, beq_eq_false_iff_ne, ne_eq, reduceCtorEq] at h) <;> (conv => whnf))
    | (refine And.intro (by (try simp only [Int.toNat_natCast]); omega) ?_; conv => whnf)
    | (refine And.intro (show (_ : Bool) = true from by kernel_rfl) ?_; conv => whnf)
    | (refine .inl ⟨wrap64 (by omega), ?_⟩; conv => whnf)))
  · exact PSub.int (by rw [firstI_at (k := k) (by omega) h hinv, ixI, if_pos (by omega)])
  · refine ⟨k + 1, [], ⟨by omega, ?_⟩, by first | omega | (dsimp only; omega), ?_⟩
    rotate_left
    · (repeat' (first | exact PSub.rfl | exact rfl | exact PSubs.rfl | exact trivial | exact PSub.lit_sb rfl | refine And.intro ?_ ?_))
    intro j hj
    by_cases e : j = k
    · subst e; exact h
    · exact hinv j (by omega)
  · exact PSub.int (by rw [firstI_none (fun j hj => hinv j (by omega)), ixI, if_neg (Nat.lt_irrefl _)])
theorem ac_slices_ContainsFunc_Key (l : List Key) (gb : List PV → Bool) (gi : List PV → Int) (hl : smallL l) : AC Tryz.prog 128 [.pv (roL 3 cKey l), .clo (fun xs => ∃ x : Key, xs = [.agg (cKey x)]) true gb gi] [] (.pv (vbool (anyN l.length fun i => gb [.agg (cKey (l.getD i default))]))) [] := by
  refine AC.of_awp (T := T) T_ok hm Tryz.call128 Tryz.func128 rfl rfl rfl ?_
  conv => whnf
  repeat (any_goals (first
    | (refine ⟨fun (h : (_ : Bool) = true) => ?_, fun (h : (_ : Bool) = false) => ?_⟩ <;> (try simp only [decide_eq_true_eq, decide_eq_false_iff_not, Bool.not_eq_true', Bool.not_eq_false', Int.toNat_natCast, beq_iff_eq, decide_eq_decide, beq_eq_false_iff_ne, ne_eq, reduceCtorEq] at h) <;> (conv => whnf))
    | (refine .inl ⟨_, ac_slices_IndexFunc_Key l gb gi hl, ?_⟩; conv => whnf)
    | (refine And.intro (by (try simp only [Int.toNat_natCast]); omega) ?_; conv => whnf)
    | (refine And.intro (show (_ : Bool) = true from by kernel_rfl) ?_; conv => whnf)
    | (refine .inl ⟨wrap64 (by omega), ?_⟩; conv => whnf)))
  exact PSub.sb ix_anyM
theorem row_updS {G : Nat → ByteArray} {i : Nat} {x : ByteArray} {n : Nat} : ∀ j, j < n → PSubs (updAt (fun j => cstr (G j)) i 0 (cstr x) j) (cstr (if j = i then x else G j)) := by
  intro j _
  by_cases e : j = i
  · subst e; rw [updAt_same, if_pos rfl]; exact PSubs.rfl
  · rw [updAt_ne e, if_neg e]; exact PSubs.rfl
theorem ac_slices_Compact_string (l : List ByteArray) (hl : l.length ≤ 8388608) : AC Tryz.prog 60 [.own 0] [(0, rowL 1 cstr l)] (.own 1) [(1, rowL 1 cstr (compToS l l.length)), (0, .gone)] := by
  refine AC.of_awp_move (T := T) T_ok hm Tryz.call60 Tryz.func60 rfl rfl rfl rfl ?_
  conv => whnf
  refine ⟨fun h => ?_, fun h => ?_⟩ <;> (try simp only [decide_eq_true_eq, decide_eq_false_iff_not, Bool.not_eq_true', Bool.not_eq_false', Int.toNat_natCast, beq_iff_eq, decide_eq_decide, beq_eq_false_iff_ne, ne_eq, reduceCtorEq] at h) <;> (conv => whnf)
  · have e : compToS l l.length = l := by
      rw [compToS_take (Nat.le_refl _) (fun j h1 h2 => by omega), List.take_length]
    rw [e]
    exact ⟨rfl, fun i hi => PSubs.rfl⟩
  refine loop_k (ι := Nat) [0] [] (fun k => 1 ≤ k ∧ k ≤ l.length ∧ ∀ j, 1 ≤ j → j < k → l.getD j default ≠ l.getD (j - 1) default) (fun k => l.length - k) 1 (fun k => [(3, .pv (vint k))]) (fun _ => [(0, rowL 1 cstr l)]) [] ⟨Nat.le_refl _, by omega, fun j h1 h2 => by omega⟩ ?_ (fun k hk => ?_)
  · (repeat' (first | exact PSub.rfl | exact rfl | exact PSubs.rfl | exact trivial | exact PSub.lit_sb rfl | refine And.intro ?_ ?_))
    intro i hi; exact PSubs.rfl
  obtain ⟨h1, h2, hinv⟩ := hk
  conv => whnf
  have hk0 : compToS l k = l.take k := compToS_take h2 hinv
  repeat (any_goals (first
    | (refine ⟨fun (h : (_ : Bool) = true) => ?_, fun (h : (_ : Bool) = false) => ?_⟩ <;> (try simp only [decide_eq_true_eq, decide_eq_false_iff_not, Bool.not_eq_true', Bool.not_eq_false', Int.toNat_natCast, beq_iff_eq, decide_eq_decide, beq_eq_false_iff_ne, ne_eq, reduceCtorEq] at h) <;> (conv => whnf))
    | (refine And.intro (by (try simp only [Int.toNat_natCast]); omega) ?_; conv => whnf)
    | (refine And.intro (show (_ : Bool) = true from by kernel_rfl) ?_; conv => whnf)
    | (refine .inl ⟨wrap64 (by omega), ?_⟩; conv => whnf)))
  · rename_i hlt
    try simp only [decide_eq_true_eq, Int.toNat_natCast] at h
    have hkm : ((k : Int) - 1).toNat = k - 1 := by omega
    rw [hkm] at h
    have hk1 : compToS l (k + 1) = l.take k := by
      rw [compToS, if_neg (not_or.2 ⟨by omega, fun hn => hn h⟩), hk0]
    refine loop_k (ι := Nat × (Nat → ByteArray)) [0, 4] [] (fun x => 1 ≤ x.1 ∧ x.1 ≤ l.length - k ∧ (compToS l (k + x.1)).length ≤ k + x.1 - 1 ∧ (∀ j, j < (compToS l (k + x.1)).length → x.2 j = (compToS l (k + x.1)).getD j default) ∧ ∀ j, k + x.1 - 1 ≤ j → j < l.length → x.2 j = l.getD j default)
      (fun x => l.length - k - x.1) (1, fun j => l.getD j default) (fun x => [(3, .pv (vint (compToS l (k + x.1)).length)), (5, .pv (vint x.1))]) (fun x => [(0, .row 1 l.length fun i => cstr (x.2 i))]) [] ⟨Nat.le_refl _, by simp only; omega, ?_, ?_, fun j _ _ => rfl⟩ ?_ (fun x hx => ?_)
    · simp only [hk1, List.length_take]; omega
    · intro j hj
      simp only [hk1, List.length_take] at hj ⊢
      simp [List.getD, List.getElem?_take, show j < k from by omega]
    · (repeat' (first | exact PSub.rfl | exact rfl | exact PSubs.rfl | exact trivial | exact PSub.lit_sb rfl | refine And.intro ?_ ?_))
      · intro i hi; exact PSubs.rfl
      · refine PSub.int ?_
        simp only [hk1, List.length_take]; omega
    obtain ⟨k2, G⟩ := x
    obtain ⟨j1, j2, hC, hG, hL⟩ := hx
    simp only at j1 j2 hC hG hL
    have hCs : compToS l (k + (k2 + 1)) = if l.getD (k + k2) default ≠ l.getD (k + k2 - 1) default then compToS l (k + k2) ++ [l.getD (k + k2) default] else compToS l (k + k2) := by
      rw [show k + (k2 + 1) = k + k2 + 1 from rfl, compToS]
      by_cases e : l.getD (k + k2) default ≠ l.getD (k + k2 - 1) default
      · rw [if_pos (.inr e), if_pos e]
      · rw [if_neg (not_or.2 ⟨by omega, e⟩), if_neg e]
    have e2 : (((k2 : Nat) : Int) - 1).toNat = k2 - 1 := by omega
    dsimp only
    conv => whnf
    repeat (any_goals (first
      | (refine ⟨fun (h : (_ : Bool) = true) => ?_, fun (h : (_ : Bool) = false) => ?_⟩ <;> (try simp only [decide_eq_true_eq, decide_eq_false_iff_not, Bool.not_eq_true', Bool.not_eq_false', Int.toNat_natCast, beq_iff_eq, decide_eq_decide, beq_eq_false_iff_ne, ne_eq, reduceCtorEq] at h) <;> (conv => whnf))
      | (refine And.intro (by (try simp only [Int.toNat_natCast]); omega) ?_; conv => whnf)
      | (refine And.intro (show (_ : Bool) = true from by kernel_rfl) ?_; conv => whnf)
      | (refine .inl ⟨wrap64 (by omega), ?_⟩; conv => whnf)))
    · rw [e2] at h
      try simp only [decide_eq_false_iff_not] at h
      rw [hL _ (by omega) (by omega), hL _ (by omega) (by omega), show k + (k2 - 1) = k + k2 - 1 from by omega] at h
      rw [if_pos h] at hCs
      refine ⟨(k2 + 1, fun j => if j = (compToS l (k + k2)).length then l.getD (k + k2) default else G j), [], ⟨?_, ?_, ?_, ?_, ?_⟩, by dsimp only; omega, ?_⟩
      · dsimp only; omega
      · dsimp only; omega
      · simp only [hCs, List.length_append, List.length_singleton]; omega
      · intro j hj
        simp only [hCs, List.length_append, List.length_singleton] at hj ⊢
        by_cases e : j = (compToS l (k + k2)).length
        · subst e; simp [List.getD]
        · rw [if_neg e, hG j (by omega)]; simp [List.getD, List.getElem?_append_left (show j < (compToS l (k + k2)).length from by omega)]
      · intro j h3 h4
        dsimp only at h3 ⊢
        rw [if_neg (by omega)]
        exact hL j (by omega) h4
      dsimp only
      rw [hCs]
      (repeat' (first | exact PSub.rfl | exact rfl | exact PSubs.rfl | exact trivial | exact PSub.lit_sb rfl | refine And.intro ?_ ?_))
      · intro j hj
        have := row_updS (G := G) (i := (compToS l (k + k2)).length) (x := l.getD (k + k2) default) j hj
        rw [← hL (k + k2) (by omega) (by omega)] at this ⊢
        exact this
      · refine PSub.int ?_; simp
    · rw [e2] at h
      try simp only [decide_eq_true_eq] at h
      rw [hL _ (by omega) (by omega), hL _ (by omega) (by omega), show k + (k2 - 1) = k + k2 - 1 from by omega] at h
      rw [if_neg (fun hn => hn h)] at hCs
      refine ⟨(k2 + 1, G), [], ⟨?_, ?_, ?_, ?_, ?_⟩, by dsimp only; omega, ?_⟩
      · dsimp only; omega
      · dsimp only; omega
      · simp only [hCs]; omega
      · intro j hj
        simp only [hCs] at hj ⊢
        exact hG j hj
      · intro j h3 h4
        dsimp only at h3 ⊢
        exact hL j (by omega) h4
      dsimp only
      rw [hCs]
      (repeat' (first | exact PSub.rfl | exact rfl | exact PSubs.rfl | exact trivial | exact PSub.lit_sb rfl | refine And.intro ?_ ?_))
      intro i hi; exact PSubs.rfl
    · have e3 : k + k2 = l.length := by omega
      rw [e3] at hG hC ⊢
      refine ⟨by simp, fun j hj => ?_⟩
      rw [fillF_eq, if_neg (by simp; omega)]
      simp only [hG j hj]
      exact PSubs.rfl
  · refine ⟨k + 1, [], ⟨by omega, by omega, fun j h3 h4 => ?_⟩, by omega, ?_⟩
    · by_cases e : j = k
      · subst e
        try simp only [decide_eq_false_iff_not, Int.toNat_natCast] at h
        rw [show ((j : Int) - 1).toNat = j - 1 from by omega] at h
        exact h
      · exact hinv j h3 (by omega)
    · (repeat' (first | exact PSub.rfl | exact rfl | exact PSubs.rfl | exact trivial | exact PSub.lit_sb rfl | refine And.intro ?_ ?_))
      intro i hi; exact PSubs.rfl
  · have e : k = l.length := by omega
    subst e
    rw [hk0, List.take_length]
    exact ⟨rfl, fun i hi => PSubs.rfl⟩
end Go.Abs

namespace Go.Abs
open Go.Proofs
set_option maxRecDepth 10000
theorem ac_member_child_present (m : Int) : AC Tryz.prog 177 [.pv (.agg []), .pv (vint m)] [] (.pv (vbool true)) [] := by
  refine AC.of_awp (T := T) T_ok hm Tryz.call177 Tryz.func177 rfl rfl rfl ?_
  conv => whnf
  exact PSub.lit_sb rfl
theorem ac_member_adult_present (m : Int) : AC Tryz.prog 178 [.pv (.agg []), .pv (vint m)] [] (.pv (vbool true)) [] := by
  refine AC.of_awp (T := T) T_ok hm Tryz.call178 Tryz.func178 rfl rfl rfl ?_
  conv => whnf
  exact PSub.lit_sb rfl
theorem ac_member_owner_present (m : Int) : AC Tryz.prog 179 [.pv (.agg []), .pv (vint m)] [] (.pv (vbool true)) [] := by
  refine AC.of_awp (T := T) T_ok hm Tryz.call179 Tryz.func179 rfl rfl rfl ?_
  conv => whnf
  exact PSub.lit_sb rfl
theorem ac_member_of_1 (x : Mem) (hx : x.role = 1) : AC Tryz.prog 75 [.pv (.agg (cMem x))] [] (.pv (.ifc 131 (.agg [roL 2 cSpn x.spans]))) [] := by
  refine AC.of_awp (T := T) T_ok hm Tryz.call75 Tryz.func75 rfl rfl rfl ?_
  conv => whnf
  repeat (any_goals (first
    | (refine ⟨fun (h : (_ : Bool) = true) => ?_, fun (h : (_ : Bool) = false) => ?_⟩ <;> (try simp only [decide_eq_true_eq, decide_eq_false_iff_not, Bool.not_eq_true', Bool.not_eq_false', Int.toNat_natCast, beq_iff_eq, decide_eq_decide, beq_eq_false_iff_ne, ne_eq, reduceCtorEq] at h) <;> (conv => whnf))
    | (refine And.intro (by (try simp only [Int.toNat_natCast]); omega) ?_; conv => whnf)
    | (refine And.intro (show (_ : Bool) = true from by kernel_rfl) ?_; conv => whnf)
    | (refine .inl ⟨wrap64 (by omega), ?_⟩; conv => whnf)))
  all_goals first | exact .rfl | (exfalso; omega) | trace_state
theorem ac_member_of_2 (x : Mem) (hx : x.role = 2) : AC Tryz.prog 75 [.pv (.agg (cMem x))] [] (.pv (.ifc 133 (.agg []))) [] := by
  refine AC.of_awp (T := T) T_ok hm Tryz.call75 Tryz.func75 rfl rfl rfl ?_
  conv => whnf
  repeat (any_goals (first
    | (refine ⟨fun (h : (_ : Bool) = true) => ?_, fun (h : (_ : Bool) = false) => ?_⟩ <;> (try simp only [decide_eq_true_eq, decide_eq_false_iff_not, Bool.not_eq_true', Bool.not_eq_false', Int.toNat_natCast, beq_iff_eq, decide_eq_decide, beq_eq_false_iff_ne, ne_eq, reduceCtorEq] at h) <;> (conv => whnf))
    | (refine And.intro (by (try simp only [Int.toNat_natCast]); omega) ?_; conv => whnf)
    | (refine And.intro (show (_ : Bool) = true from by kernel_rfl) ?_; conv => whnf)
    | (refine .inl ⟨wrap64 (by omega), ?_⟩; conv => whnf)))
  all_goals first | exact .rfl | (exfalso; omega) | trace_state
theorem ac_member_of_3 (x : Mem) (hx : x.role = 3) : AC Tryz.prog 75 [.pv (.agg (cMem x))] [] (.pv (.ifc 134 (.agg []))) [] := by
  refine AC.of_awp (T := T) T_ok hm Tryz.call75 Tryz.func75 rfl rfl rfl ?_
  conv => whnf
  repeat (any_goals (first
    | (refine ⟨fun (h : (_ : Bool) = true) => ?_, fun (h : (_ : Bool) = false) => ?_⟩ <;> (try simp only [decide_eq_true_eq, decide_eq_false_iff_not, Bool.not_eq_true', Bool.not_eq_false', Int.toNat_natCast, beq_iff_eq, decide_eq_decide, beq_eq_false_iff_ne, ne_eq, reduceCtorEq] at h) <;> (conv => whnf))
    | (refine And.intro (by (try simp only [Int.toNat_natCast]); omega) ?_; conv => whnf)
    | (refine And.intro (show (_ : Bool) = true from by kernel_rfl) ?_; conv => whnf)
    | (refine .inl ⟨wrap64 (by omega), ?_⟩; conv => whnf)))
  all_goals first | exact .rfl | (exfalso; omega) | trace_state
theorem ac_member_of_4 (x : Mem) (h1 : x.role ≠ 1) (h2 : x.role ≠ 2) (h3 : x.role ≠ 3) : AC Tryz.prog 75 [.pv (.agg (cMem x))] [] (.pv (.ifc 135 (.agg []))) [] := by
  refine AC.of_awp (T := T) T_ok hm Tryz.call75 Tryz.func75 rfl rfl rfl ?_
  conv => whnf
  repeat (any_goals (first
    | (refine ⟨fun (h : (_ : Bool) = true) => ?_, fun (h : (_ : Bool) = false) => ?_⟩ <;> (try simp only [decide_eq_true_eq, decide_eq_false_iff_not, Bool.not_eq_true', Bool.not_eq_false', Int.toNat_natCast, beq_iff_eq, decide_eq_decide, beq_eq_false_iff_ne, ne_eq, reduceCtorEq] at h) <;> (conv => whnf))
    | (refine And.intro (by (try simp only [Int.toNat_natCast]); omega) ?_; conv => whnf)
    | (refine And.intro (show (_ : Bool) = true from by kernel_rfl) ?_; conv => whnf)
    | (refine .inl ⟨wrap64 (by omega), ?_⟩; conv => whnf)))
  all_goals first | exact .rfl | (exfalso; omega) | trace_state
theorem ac_member_level_1 (l : List Spn) : AC Tryz.prog 77 [.pv (.ifc 131 (.agg [roL 2 cSpn l]))] [] (.pv (vint 0)) [] := by
  refine AC.of_awp (T := T) T_ok hm Tryz.call77 Tryz.func77 rfl rfl rfl ?_
  conv => whnf
  repeat (any_goals (first
    | (refine ⟨fun (h : (_ : Bool) = true) => ?_, fun (h : (_ : Bool) = false) => ?_⟩ <;> (try simp only [decide_eq_true_eq, decide_eq_false_iff_not, Bool.not_eq_true', Bool.not_eq_false', Int.toNat_natCast, beq_iff_eq, decide_eq_decide, beq_eq_false_iff_ne, ne_eq, reduceCtorEq] at h) <;> (conv => whnf))
    | (refine And.intro (by (try simp only [Int.toNat_natCast]); omega) ?_; conv => whnf)
    | (refine And.intro (show (_ : Bool) = true from by kernel_rfl) ?_; conv => whnf)
    | (refine .inl ⟨wrap64 (by omega), ?_⟩; conv => whnf)))
  all_goals first | exact .rfl | trace_state
theorem ac_member_level_2 : AC Tryz.prog 77 [.pv (.ifc 133 (.agg []))] [] (.pv (vint 1)) [] := by
  refine AC.of_awp (T := T) T_ok hm Tryz.call77 Tryz.func77 rfl rfl rfl ?_
  conv => whnf
  repeat (any_goals (first
    | (refine ⟨fun (h : (_ : Bool) = true) => ?_, fun (h : (_ : Bool) = false) => ?_⟩ <;> (try simp only [decide_eq_true_eq, decide_eq_false_iff_not, Bool.not_eq_true', Bool.not_eq_false', Int.toNat_natCast, beq_iff_eq, decide_eq_decide, beq_eq_false_iff_ne, ne_eq, reduceCtorEq] at h) <;> (conv => whnf))
    | (refine And.intro (by (try simp only [Int.toNat_natCast]); omega) ?_; conv => whnf)
    | (refine And.intro (show (_ : Bool) = true from by kernel_rfl) ?_; conv => whnf)
    | (refine .inl ⟨wrap64 (by omega), ?_⟩; conv => whnf)))
  all_goals first | exact .rfl | trace_state
theorem ac_member_level_3 : AC Tryz.prog 77 [.pv (.ifc 134 (.agg []))] [] (.pv (vint 2)) [] := by
  refine AC.of_awp (T := T) T_ok hm Tryz.call77 Tryz.func77 rfl rfl rfl ?_
  conv => whnf
  repeat (any_goals (first
    | (refine ⟨fun (h : (_ : Bool) = true) => ?_, fun (h : (_ : Bool) = false) => ?_⟩ <;> (try simp only [decide_eq_true_eq, decide_eq_false_iff_not, Bool.not_eq_true', Bool.not_eq_false', Int.toNat_natCast, beq_iff_eq, decide_eq_decide, beq_eq_false_iff_ne, ne_eq, reduceCtorEq] at h) <;> (conv => whnf))
    | (refine And.intro (by (try simp only [Int.toNat_natCast]); omega) ?_; conv => whnf)
    | (refine And.intro (show (_ : Bool) = true from by kernel_rfl) ?_; conv => whnf)
    | (refine .inl ⟨wrap64 (by omega), ?_⟩; conv => whnf)))
  all_goals first | exact .rfl | trace_state
theorem ac_member_level_4 : AC Tryz.prog 77 [.pv (.ifc 135 (.agg []))] [] (.pv (vint 3)) [] := by
  refine AC.of_awp (T := T) T_ok hm Tryz.call77 Tryz.func77 rfl rfl rfl ?_
  conv => whnf
  repeat (any_goals (first
    | (refine ⟨fun (h : (_ : Bool) = true) => ?_, fun (h : (_ : Bool) = false) => ?_⟩ <;> (try simp only [decide_eq_true_eq, decide_eq_false_iff_not, Bool.not_eq_true', Bool.not_eq_false', Int.toNat_natCast, beq_iff_eq, decide_eq_decide, beq_eq_false_iff_ne, ne_eq, reduceCtorEq] at h) <;> (conv => whnf))
    | (refine And.intro (by (try simp only [Int.toNat_natCast]); omega) ?_; conv => whnf)
    | (refine And.intro (show (_ : Bool) = true from by kernel_rfl) ?_; conv => whnf)
    | (refine .inl ⟨wrap64 (by omega), ?_⟩; conv => whnf)))
  all_goals first | exact .rfl | trace_state
end Go.Abs

namespace Go.Abs
open Go.Proofs
set_option maxRecDepth 10000
noncomputable def nameG (s : ByteArray) : List PV → Bool := fun xs => match xs with
  | [.agg (.val (.string x) :: _)] => decide (x = s)
  | _ => false
noncomputable def roleG : List PV → Bool := fun xs => match xs with
  | [.agg (_ :: .val (.int _ r) :: _)] => decide (r = 4)
  | _ => false
noncomputable def roomG (s : ByteArray) : List PV → Bool := fun xs => match xs with
  | [.agg [_, _, _, _, _, .val (.string r), _]] => decide (r = s)
  | _ => false
noncomputable def idG (id : Int) : List PV → Bool := fun xs => match xs with
  | [.agg (.val (.int _ i) :: _)] => decide (i = id)
  | _ => false
noncomputable def safeG [Globals] (H : Hom) (c : ByteArray) : List PV → Bool := fun xs => match xs with
  | [.agg [.val (.int _ d), .val (.string k), .val (.string a)]] => decide (k = c) && safeB H ⟨d, k, a⟩
  | _ => false
theorem ac_member_one_1 (x y : Mem) : AC Tryz.prog 67 [.pv (.agg (cMem x)), .pv (.cell (cMem y))] [] (.pv (vbool (decide (x.name = y.name)))) [] := by
  refine AC.of_awp (T := T) T_ok hm Tryz.call67 Tryz.func67 rfl rfl rfl ?_
  conv => whnf
  exact .rfl
theorem ac_member_Check_1 (x : Mem) : AC Tryz.prog 36 [.pv (.agg (cMem x))] [] (.pv (vbool (decide (x.role = 4)))) [] := by
  refine AC.of_awp (T := T) T_ok hm Tryz.call36 Tryz.func36 rfl rfl rfl ?_
  conv => whnf
  exact .rfl
theorem ac_member_one_2 (d : Dev) (s : ByteArray) : AC Tryz.prog 70 [.pv (.agg (cDev d)), .pv (.cell [vstr s])] [] (.pv (vbool (decide (d.room = s)))) [] := by
  refine AC.of_awp (T := T) T_ok hm Tryz.call70 Tryz.func70 rfl rfl rfl ?_
  conv => whnf
  exact .rfl
theorem ac_member_control_1 (d : Dev) (q : Rqs) : AC Tryz.prog 97 [.pv (.agg (cDev d)), .pv (.cell (cRqs q))] [] (.pv (vbool (decide (d.id = q.key.dev)))) [] := by
  refine AC.of_awp (T := T) T_ok hm Tryz.call97 Tryz.func97 rfl rfl rfl ?_
  conv => whnf
  exact .rfl
theorem ac_member_safety_1 (H : Hom) (k : Key) (q : Rqs) (hH : smallH H) : AC Tryz.prog 129 [.pv (.agg (cKey k)), .pv (.cell (cRqs q)), .pv (.cell (cHom H))] [] (.pv (vbool (decide (k.cluster = q.key.cluster) && safeB H k))) [] := by
  refine AC.of_awp (T := T) T_ok hm Tryz.call129 Tryz.func129 rfl rfl rfl ?_
  conv => whnf
  repeat (any_goals (first
    | (refine ⟨fun (h : (_ : Bool) = true) => ?_, fun (h : (_ : Bool) = false) => ?_⟩ <;> (try simp only [decide_eq_true_eq, decide_eq_false_iff_not, Bool.not_eq_true', Bool.not_eq_false', Int.toNat_natCast, beq_iff_eq, decide_eq_decide, beq_eq_false_iff_ne, ne_eq, reduceCtorEq] at h) <;> (conv => whnf))
    | (refine .inl ⟨_, ac_device_Safe H k hH, ?_⟩; conv => whnf)
    | (refine And.intro (by (try simp only [Int.toNat_natCast]); omega) ?_; conv => whnf)
    | (refine And.intro (show (_ : Bool) = true from by kernel_rfl) ?_; conv => whnf)
    | (refine .inl ⟨wrap64 (by omega), ?_⟩; conv => whnf)))
  all_goals first
    | contradiction
    | (exfalso; omega)
    | exact PSub.rfl
    | (refine PSub.lit_sb ?_; (first | (simp [safeB, *]; done) | (simp_all [safeB]; done) | ((try simp only [safeB]); (repeat' split) <;> (try simp only [Bool.false_eq, Bool.true_eq, Bool.and_eq_false_iff, decide_eq_false_iff_not, Bool.and_eq_true, decide_eq_true_eq, decide_eq_decide]) <;> first | rfl | omega | (simp_all; done) | (simp_all; omega))))
    | (refine PSub.sb ?_; (first | (simp [safeB, *]; done) | (simp_all [safeB]; done) | ((try simp only [safeB]); (repeat' split) <;> (try simp only [Bool.false_eq, Bool.true_eq, Bool.and_eq_false_iff, decide_eq_false_iff_not, Bool.and_eq_true, decide_eq_true_eq, decide_eq_decide]) <;> first | rfl | omega | (simp_all; done) | (simp_all; omega))))
    | (refine PSub.sb_lit ?_; (first | (simp [safeB, *]; done) | (simp_all [safeB]; done) | ((try simp only [safeB]); (repeat' split) <;> (try simp only [Bool.false_eq, Bool.true_eq, Bool.and_eq_false_iff, decide_eq_false_iff_not, Bool.and_eq_true, decide_eq_true_eq, decide_eq_decide]) <;> first | rfl | omega | (simp_all; done) | (simp_all; omega))))
    | (refine PSub.int ?_; (first | (simp [safeB, *]; done) | (simp_all [safeB]; done) | ((try simp only [safeB]); (repeat' split) <;> (try simp only [Bool.false_eq, Bool.true_eq, Bool.and_eq_false_iff, decide_eq_false_iff_not, Bool.and_eq_true, decide_eq_true_eq, decide_eq_decide]) <;> first | rfl | omega | (simp_all; done) | (simp_all; omega))))
    | skip
theorem ac_contains_name (l : List Mem) (n : Nat) (y : Mem) (hl : n ≤ 1048576) : AC Tryz.prog 35 [.pv (.ro 5 n fun i => cMem (l.getD i default)), .fn 67 [.pv (.cell (cMem y))]] [] (.pv (vbool (anyN n fun i => decide ((l.getD i default).name = y.name)))) [] := by
  refine AC.with_fn (pre := [.pv (.ro 5 n fun i => cMem (l.getD i default))]) (post := []) (ac_slices_ContainsFunc_Member l n (nameG y.name) (fun _ => 0) hl) Tryz.call67 rfl rfl rfl ?_
  rintro xs ⟨x, rfl⟩
  exact ac_member_one_1 x y
theorem ac_contains_owner (l : List Mem) (hl : smallL l) : AC Tryz.prog 35 [.pv (roL 5 cMem l), .fn 36 []] [] (.pv (vbool (anyN l.length fun i => decide ((l.getD i default).role = 4)))) [] := by
  refine AC.with_fn (pre := [.pv (roL 5 cMem l)]) (post := []) (ac_slices_ContainsFunc_Member l l.length roleG (fun _ => 0) hl) Tryz.call36 rfl rfl rfl ?_
  rintro xs ⟨x, rfl⟩
  exact ac_member_Check_1 x
theorem ac_contains_room (l : List Dev) (s : ByteArray) (hl : smallL l) : AC Tryz.prog 69 [.pv (roL 7 cDev l), .fn 70 [.pv (.cell [vstr s])]] [] (.pv (vbool (anyN l.length fun i => decide ((l.getD i default).room = s)))) [] := by
  refine AC.with_fn (pre := [.pv (roL 7 cDev l)]) (post := []) (ac_slices_ContainsFunc_DevM l (roomG s) (fun _ => 0) hl) Tryz.call70 rfl rfl rfl ?_
  rintro xs ⟨x, rfl⟩
  exact ac_member_one_2 x s
theorem ac_contains_id (l : List Dev) (q : Rqs) (hl : smallL l) : AC Tryz.prog 69 [.pv (roL 7 cDev l), .fn 97 [.pv (.cell (cRqs q))]] [] (.pv (vbool (anyN l.length fun i => decide ((l.getD i default).id = q.key.dev)))) [] := by
  refine AC.with_fn (pre := [.pv (roL 7 cDev l)]) (post := []) (ac_slices_ContainsFunc_DevM l (idG q.key.dev) (fun _ => 0) hl) Tryz.call97 rfl rfl rfl ?_
  rintro xs ⟨x, rfl⟩
  exact ac_member_control_1 x q
theorem ac_contains_safe (H : Hom) (l : List Key) (q : Rqs) (hH : smallH H) (hl : smallL l) : AC Tryz.prog 128 [.pv (roL 3 cKey l), .fn 129 [.pv (.cell (cRqs q)), .pv (.cell (cHom H))]] [] (.pv (vbool (anyN l.length fun i => decide ((l.getD i default).cluster = q.key.cluster) && safeB H (l.getD i default)))) [] := by
  refine AC.with_fn (pre := [.pv (roL 3 cKey l)]) (post := []) (ac_slices_ContainsFunc_Key l (safeG H q.key.cluster) (fun _ => 0) hl) Tryz.call129 rfl rfl rfl ?_
  rintro xs ⟨x, rfl⟩
  exact ac_member_safety_1 H x q hH
end Go.Abs

namespace Go.Abs
open Go.Proofs
set_option maxRecDepth 10000
theorem ac_member_safety (H : Hom) (q : Rqs) (hH : smallH H) (hk : smallL (keysL H q.key.dev)) : AC Tryz.prog 99 [.pv (.agg (cHom H)), .pv (.agg (cRqs q))] [] (.pv (vbool (safeR H q))) [] := by
  refine AC.of_awp (T := T) T_ok hm Tryz.call99 Tryz.func99 rfl rfl rfl ?_
  conv => whnf
  repeat (any_goals (first
    | (refine ⟨fun (h : (_ : Bool) = true) => ?_, fun (h : (_ : Bool) = false) => ?_⟩ <;> (try simp only [decide_eq_true_eq, decide_eq_false_iff_not, Bool.not_eq_true', Bool.not_eq_false', Int.toNat_natCast, beq_iff_eq, decide_eq_decide, beq_eq_false_iff_ne, ne_eq, reduceCtorEq] at h) <;> (conv => whnf))
    | (refine .inl ⟨_, ac_device_Safe H q.key hH, ?_⟩; conv => whnf)
    | (refine .inl ⟨_, ac_device_Keys H q.key.dev hH, ?_⟩; conv => whnf)
    | (refine .inl ⟨_, ac_contains_safe H (keysL H q.key.dev) q hH hk, ?_⟩; conv => whnf)
    | (refine And.intro (by (try simp only [Int.toNat_natCast]); omega) ?_; conv => whnf)
    | (refine And.intro (show (_ : Bool) = true from by kernel_rfl) ?_; conv => whnf)
    | (refine .inl ⟨wrap64 (by omega), ?_⟩; conv => whnf)))
  · refine PSub.sb ?_
    unfold safeR; rw [if_pos h]
  · refine PSub.sb ?_
    unfold safeR; rw [if_neg h]
theorem ac_member_control (H : Hom) (x : Mem) (rp : PV) (q : Rqs) (hH : smallH H) (hk : smallL (keysL H q.key.dev)) (hr : smallL x.rooms) (hv : AC Tryz.prog 77 [.pv rp] [] (.pv (vint (lvl x))) []) :
    AC Tryz.prog 76 [.pv (.agg (cHom H)), .pv (.agg (cMem x)), .pv rp, .pv (.agg (cRqs q))] [] (.pv (vint (ctrlE H x q))) [] := by
  have hd : (anyN H.devices.length fun i => decide ((H.devices.getD i default).id = q.key.dev)) = decide (devAt H.devices q.key.dev < H.devices.length) := ix_anyM.symm.trans (by
    rcases firstI_cases (n := H.devices.length) (p := fun i => decide ((H.devices.getD i default).id = q.key.dev)) with ⟨h1, _, _⟩ | ⟨h1, _⟩
    · rw [ixI, if_pos h1]
      have h3 : devAt H.devices q.key.dev < H.devices.length := h1
      rw [decide_eq_true h3]; exact decide_eq_true (by omega)
    · have h3 : ¬ devAt H.devices q.key.dev < H.devices.length := by show ¬ firstI _ _ < _; rw [h1]; omega
      rw [ixI, h1, if_neg (Nat.lt_irrefl _), decide_eq_false h3]; rfl)
  refine AC.of_awp (T := T) T_ok hm Tryz.call76 Tryz.func76 rfl rfl rfl ?_
  conv => whnf
  have c1 := ac_contains_id H.devices q hH.2.1
  rw [hd] at c1
  repeat (any_goals (first
    | (refine ⟨fun (h : (_ : Bool) = true) => ?_, fun (h : (_ : Bool) = false) => ?_⟩ <;> (try simp only [decide_eq_true_eq, decide_eq_false_iff_not, Bool.not_eq_true', Bool.not_eq_false', Int.toNat_natCast, beq_iff_eq, decide_eq_decide, beq_eq_false_iff_ne, ne_eq, reduceCtorEq] at h) <;> (conv => whnf))
    | (refine .inl ⟨_, c1, ?_⟩; conv => whnf)
    | (refine .inl ⟨_, ac_device_Room H q.key.dev hH, ?_⟩; conv => whnf)
    | (refine .inl ⟨_, ac_slices_Contains_string x.rooms 0 (findD H q.key.dev).room hr, ?_⟩; conv => whnf)
    | (refine .inl ⟨_, hv, ?_⟩; conv => whnf)
    | (refine .inl ⟨_, ac_member_safety H q hH hk, ?_⟩; conv => whnf)
    | (refine And.intro (by (try simp only [Int.toNat_natCast]); omega) ?_; conv => whnf)
    | (refine And.intro (show (_ : Bool) = true from by kernel_rfl) ?_; conv => whnf)
    | (refine .inl ⟨wrap64 (by omega), ?_⟩; conv => whnf)))
  all_goals (refine PSub.int ?_; unfold ctrlE; simp [*, -List.getD_eq_getElem?_getD]; try omega)
  all_goals (intro e; exfalso; have e := congrArg List.length e; simp only [List.length_nil] at e; omega)
end Go.Abs

namespace Go.Abs
open Go.Proofs
set_option maxRecDepth 10000
theorem memE_own [Globals] {H : Hom} {l : List Mem} {i : Nat} (h1 : validName (l.getD i default).name = true) (h2 : (anyN i fun j => decide ((l.getD j default).name = (l.getD i default).name)) = false) : memE H l i = ownEnt H (l.getD i default) := by
  unfold memE; rw [if_neg (by rw [h1]; decide), if_neg (by rw [h2]; decide)]
theorem own_form [Globals] {H : Hom} {x : Mem} (h1 : ¬ x.role < 1) (h2 : ¬ 4 < x.role) (h3 : spnE x.spans = 0) (h4 : 3 ≤ x.role) (h5 : 0 < x.rooms.length) : ownEnt H x = 4 := by
  unfold ownEnt; rw [if_neg (by omega), if_neg (by rw [h3]; decide), if_pos (.inr ⟨h4, h5⟩)]
theorem own_rooms [Globals] {H : Hom} {x : Mem} (h1 : ¬ x.role < 1) (h2 : ¬ 4 < x.role) (h3 : spnE x.spans = 0) (h4 : x.role = 1 ↔ 0 < x.spans.length) (h5 : ¬ (3 ≤ x.role ∧ 0 < x.rooms.length)) (h6 : ¬ 256 < x.rooms.length) : ownEnt H x = firstE x.rooms.length fun i => roomE H (x.rooms.getD i default) := by
  unfold ownEnt; rw [if_neg (by omega), if_neg (by rw [h3]; decide), if_neg (by rintro (h | h); exact h h4; exact h5 h), if_neg h6]
theorem ac_member_one (H : Hom) (l : List Mem) (i : Nat) (hH : smallH H) (hl : smallL l) (hi : i < l.length) (hs : smallL (l.getD i default).spans) (hr : smallL (l.getD i default).rooms) :
    AC Tryz.prog 34 [.pv (.agg (cHom H)), .pv (roL 5 cMem l), .pv (vint i)] [] (.pv (vint (memE H l i))) [] := by
  have hl2 : l.length ≤ 1048576 := hl
  have hr2 : (l.getD i default).rooms.length ≤ 1048576 := hr
  refine AC.of_awp (T := T) T_ok hm Tryz.call34 Tryz.func34 rfl rfl rfl ?_
  conv => whnf
  repeat (any_goals (first
    | (refine ⟨fun (h : (_ : Bool) = true) => ?_, fun (h : (_ : Bool) = false) => ?_⟩ <;> (try simp only [decide_eq_true_eq, decide_eq_false_iff_not, Bool.not_eq_true', Bool.not_eq_false', Int.toNat_natCast, beq_iff_eq, decide_eq_decide, beq_eq_false_iff_ne, ne_eq, reduceCtorEq] at h) <;> (conv => whnf))
    | (refine .inl ⟨_, ac_names_Valid (l.getD i default).name, ?_⟩; conv => whnf)
    | (refine .inl ⟨_, ac_contains_name l i (l.getD i default) (by omega), ?_⟩; conv => whnf)
    | (refine .inl ⟨_, ac_sched_Check (l.getD i default).spans hs, ?_⟩; conv => whnf)
    | (refine And.intro (by (try simp only [Int.toNat_natCast]); omega) ?_; conv => whnf)
    | (refine And.intro (show (_ : Bool) = true from by kernel_rfl) ?_; conv => whnf)
    | (refine .inl ⟨wrap64 (by omega), ?_⟩; conv => whnf)))
  all_goals try (refine PSub.int ?_; unfold memE ownEnt; simp [*, -List.getD_eq_getElem?_getD]; done)
  all_goals try (refine PSub.int ?_; unfold memE ownEnt; simp [*, -List.getD_eq_getElem?_getD]; omega)
  · exact PSub.int (by rw [memE_own ‹_› ‹_›, own_form ‹_› ‹_› ‹_› ‹_› (by omega)])
  all_goals
    have e0 : memE H l i = firstE (l.getD i default).rooms.length fun j => roomE H ((l.getD i default).rooms.getD j default) := by
      rw [memE_own ‹_› ‹_›, own_rooms ‹_› ‹_› ‹_› (by omega) (by omega) (by omega)]
    rw [e0]
    refine loop_k (ι := Nat) [3, 62, 63] [3] (fun k => k ≤ (l.getD i default).rooms.length ∧ (∀ j, j < k → roomE H ((l.getD i default).rooms.getD j default) = 0)) (fun k => (l.getD i default).rooms.length - k) 0 (fun k => [(64, .pv (vint k))]) (fun _ => []) [] ⟨Nat.zero_le _, fun j h => absurd h (by omega)⟩ ?_ (fun k hk => ?_)
    · (repeat' (first | exact PSub.rfl | exact rfl | exact PSubs.rfl | exact trivial | exact PSub.lit_sb rfl | refine And.intro ?_ ?_))
    obtain ⟨hkn, hinv⟩ := hk
    conv => whnf
    repeat (any_goals (first
      | (refine ⟨fun (h : (_ : Bool) = true) => ?_, fun (h : (_ : Bool) = false) => ?_⟩ <;> (try simp only [decide_eq_true_eq, decide_eq_false_iff_not, Bool.not_eq_true', Bool.not_eq_false', Int.toNat_natCast, beq_iff_eq, decide_eq_decide, beq_eq_false_iff_ne, ne_eq, reduceCtorEq] at h) <;> (conv => whnf))
      | (refine .inl ⟨_, ac_names_Valid ((l.getD i default).rooms.getD k default), ?_⟩; conv => whnf)
      | (refine .inl ⟨_, ac_contains_room H.devices ((l.getD i default).rooms.getD k default) hH.2.1, ?_⟩; conv => whnf)
      | (refine And.intro (by (try simp only [Int.toNat_natCast]); omega) ?_; conv => whnf)
      | (refine And.intro (show (_ : Bool) = true from by kernel_rfl) ?_; conv => whnf)
      | (refine .inl ⟨wrap64 (by omega), ?_⟩; conv => whnf)))
    · have e : roomE H ((l.getD i default).rooms.getD k default) = 10 := by unfold roomE; rw [if_pos h]
      exact PSub.int (by rw [firstE_at (k := k) (by omega) (by rw [e]; decide) hinv, e])
    · rename_i h1
      have e : roomE H ((l.getD i default).rooms.getD k default) = 8 := by unfold roomE inRoom; rw [if_neg (by rw [h1]; decide), if_pos h]
      exact PSub.int (by rw [firstE_at (k := k) (by omega) (by rw [e]; decide) hinv, e])
    · rename_i h1
      have e : roomE H ((l.getD i default).rooms.getD k default) = 0 := by unfold roomE inRoom; rw [if_neg (by rw [h1]; decide), if_neg (by rw [h]; decide)]
      refine ⟨k + 1, [], ⟨by omega, ?_⟩, by first | omega | (dsimp only; omega), ?_⟩
      rotate_left
      · (repeat' (first | exact PSub.rfl | exact rfl | exact PSubs.rfl | exact trivial | exact PSub.lit_sb rfl | refine And.intro ?_ ?_))
      intro j hj
      by_cases ej : j = k
      · subst ej; exact e
      · exact hinv j (by omega)
    · exact PSub.int (by rw [firstE_none fun j hj => hinv j (by omega)])
end Go.Abs

namespace Go.Abs
open Go.Proofs
set_option maxRecDepth 10000
def goodM (l : List Mem) : Prop := smallL l ∧ ∀ i, i < l.length → smallL (l.getD i default).spans ∧ smallL (l.getD i default).rooms
theorem ac_member_Check (H : Hom) (l : List Mem) (hH : smallH H) (hg : goodM l) : AC Tryz.prog 12 [.pv (.agg (cHom H)), .pv (roL 5 cMem l)] [] (.pv (vint (memsE H l))) [] := by
  have hl : l.length ≤ 1048576 := hg.1
  refine AC.of_awp (T := T) T_ok hm Tryz.call12 Tryz.func12 rfl rfl rfl ?_
  conv => whnf
  repeat (any_goals (first
    | (refine ⟨fun (h : (_ : Bool) = true) => ?_, fun (h : (_ : Bool) = false) => ?_⟩ <;> (try simp only [decide_eq_true_eq, decide_eq_false_iff_not, Bool.not_eq_true', Bool.not_eq_false', Int.toNat_natCast, beq_iff_eq, decide_eq_decide, beq_eq_false_iff_ne, ne_eq, reduceCtorEq] at h) <;> (conv => whnf))
    | (refine .inl ⟨_, ac_device_Check H hH, ?_⟩; conv => whnf)
    | (refine And.intro (by (try simp only [Int.toNat_natCast]); omega) ?_; conv => whnf)
    | (refine And.intro (show (_ : Bool) = true from by kernel_rfl) ?_; conv => whnf)
    | (refine .inl ⟨wrap64 (by omega), ?_⟩; conv => whnf)))
  · exact PSub.int (by rw [memsE, if_pos h])
  · rename_i h0
    exact PSub.int (by rw [memsE, if_neg (fun x => x h0), if_pos (by omega)])
  · rename_i h0 h1
    exact PSub.int (by rw [memsE, if_neg (fun x => x h0), if_pos (by omega)])
  rename_i h0 h1
  rw [memsE, if_neg (fun x => x h0), if_neg (by omega)]
  refine loop_k (ι := Nat) [1, 2, 22] [2] (fun k => k ≤ l.length ∧ (∀ j, j < k → memE H l j = 0)) (fun k => l.length - k) 0 (fun k => [(23, .pv (vint k))]) (fun _ => []) [] ⟨Nat.zero_le _, fun j h => absurd h (by omega)⟩ ?_ (fun k hk => ?_)
  · (repeat' (first | exact PSub.rfl | exact rfl | exact PSubs.rfl | exact trivial | exact PSub.lit_sb rfl | refine And.intro ?_ ?_))
  obtain ⟨hkn, hinv⟩ := hk
  conv => whnf
  refine ⟨fun h => ?_, fun h => ?_⟩ <;> (try simp only [decide_eq_true_eq, decide_eq_false_iff_not, Bool.not_eq_true', Bool.not_eq_false', Int.toNat_natCast, beq_iff_eq, decide_eq_decide, beq_eq_false_iff_ne, ne_eq, reduceCtorEq] at h) <;> (conv => whnf)
  · refine .inl ⟨_, ac_member_one H l k hH hg.1 (by omega) (hg.2 k (by omega)).1 (hg.2 k (by omega)).2, ?_⟩
    conv => whnf
    repeat (any_goals (first
      | (refine ⟨fun (h : (_ : Bool) = true) => ?_, fun (h : (_ : Bool) = false) => ?_⟩ <;> (try simp only [decide_eq_true_eq, decide_eq_false_iff_not, Bool.not_eq_true', Bool.not_eq_false', Int.toNat_natCast, beq_iff_eq, decide_eq_decide, beq_eq_false_iff_ne, ne_eq, reduceCtorEq] at h) <;> (conv => whnf))
      | (refine And.intro (by (try simp only [Int.toNat_natCast]); omega) ?_; conv => whnf)
      | (refine And.intro (show (_ : Bool) = true from by kernel_rfl) ?_; conv => whnf)
      | (refine .inl ⟨wrap64 (by omega), ?_⟩; conv => whnf)))
    · exact PSub.int (by rw [firstE_at (k := k) (by omega) h hinv, if_pos h])
    · refine ⟨k + 1, [], ⟨by omega, ?_⟩, by first | omega | (dsimp only; omega), ?_⟩
      rotate_left
      · (repeat' (first | exact PSub.rfl | exact rfl | exact PSubs.rfl | exact trivial | exact PSub.lit_sb rfl | refine And.intro ?_ ?_))
      intro j hj
      by_cases ej : j = k
      · subst ej; exact h
      · exact hinv j (by omega)
  · repeat (any_goals (first
      | (refine ⟨fun (h : (_ : Bool) = true) => ?_, fun (h : (_ : Bool) = false) => ?_⟩ <;> (try simp only [decide_eq_true_eq, decide_eq_false_iff_not, Bool.not_eq_true', Bool.not_eq_false', Int.toNat_natCast, beq_iff_eq, decide_eq_decide, beq_eq_false_iff_ne, ne_eq, reduceCtorEq] at h) <;> (conv => whnf))
      | (refine .inl ⟨_, ac_contains_owner l hg.1, ?_⟩; conv => whnf)
      | (refine And.intro (by (try simp only [Int.toNat_natCast]); omega) ?_; conv => whnf)
      | (refine And.intro (show (_ : Bool) = true from by kernel_rfl) ?_; conv => whnf)
      | (refine .inl ⟨wrap64 (by omega), ?_⟩; conv => whnf)))
    · exact PSub.int (by rw [firstE_none fun j hj => hinv j (by omega), if_neg (by decide), if_pos h])
    · exact PSub.int (by rw [firstE_none fun j hj => hinv j (by omega), if_neg (by decide), if_neg (by rw [h]; decide)])
end Go.Abs

namespace Go.Abs
open Go.Proofs
set_option maxRecDepth 10000
set_option maxHeartbeats 4000000 in
theorem ac_member_may (H : Hom) (x : Mem) (m : Int) (q : Rqs) (hH : smallH H) (hk : smallL (keysL H q.key.dev)) (hs : smallL x.spans) (hr : smallL x.rooms) :
    AC Tryz.prog 41 [.pv (.agg (cHom H)), .pv (.agg (cMem x)), .pv (vint m), .pv (.agg (cRqs q))] [] (.pv (vint (mayE H x m q))) [] := by
  by_cases r1 : x.role = 1
  · skip
    have hv : lvl x = 0 := by unfold lvl; rw [if_pos r1]
    have hc := ac_member_control H x (.ifc 131 (.agg [roL 2 cSpn x.spans])) q hH hk hr (by rw [hv]; exact ac_member_level_1 x.spans)
    have hb : herB x m = (decide (0 ≤ m) && hasW x.spans m) := by unfold herB; rw [if_pos r1]
    refine AC.of_awp (T := T) T_ok hm Tryz.call41 Tryz.func41 rfl rfl rfl ?_
    conv => whnf
    repeat (any_goals (first
      | (refine ⟨fun (h : (_ : Bool) = true) => ?_, fun (h : (_ : Bool) = false) => ?_⟩ <;> (try simp only [decide_eq_true_eq, decide_eq_false_iff_not, Bool.not_eq_true', Bool.not_eq_false', Int.toNat_natCast, beq_iff_eq, decide_eq_decide, beq_eq_false_iff_ne, ne_eq, reduceCtorEq] at h) <;> (conv => whnf))
      | (refine .inl ⟨_, ac_member_of_1 x r1, ?_⟩; conv => whnf)
      | (refine ⟨_, _, ac_member_guest_present x.spans m hs, (by kernel_rfl), ?_⟩; conv => whnf)
      | (refine .inl ⟨_, hc, ?_⟩; conv => whnf)
      | (refine .inl ⟨_, ac_member_level_1 x.spans, ?_⟩; conv => whnf)
      | (refine And.intro (by (try simp only [Int.toNat_natCast]); omega) ?_; conv => whnf)
      | (refine And.intro (show (_ : Bool) = true from by kernel_rfl) ?_; conv => whnf)
      | (refine .inl ⟨wrap64 (by omega), ?_⟩; conv => whnf)))
    all_goals first
      | contradiction
      | (exfalso; omega)
      | (refine PSub.int ?_; unfold mayE leastQ; simp only [hb, hv]; (repeat' split) <;> first | rfl | omega | (simp_all [-List.getD_eq_getElem?_getD]; done) | (simp_all [-List.getD_eq_getElem?_getD]; omega))
      | skip
  by_cases r2 : x.role = 2
  · skip
    have hv : lvl x = 1 := by unfold lvl; rw [if_neg r1, if_pos r2]
    have hc := ac_member_control H x (.ifc 133 (.agg [])) q hH hk hr (by rw [hv]; exact ac_member_level_2)
    have hb : herB x m = true := by unfold herB; rw [if_neg r1]
    refine AC.of_awp (T := T) T_ok hm Tryz.call41 Tryz.func41 rfl rfl rfl ?_
    conv => whnf
    repeat (any_goals (first
      | (refine ⟨fun (h : (_ : Bool) = true) => ?_, fun (h : (_ : Bool) = false) => ?_⟩ <;> (try simp only [decide_eq_true_eq, decide_eq_false_iff_not, Bool.not_eq_true', Bool.not_eq_false', Int.toNat_natCast, beq_iff_eq, decide_eq_decide, beq_eq_false_iff_ne, ne_eq, reduceCtorEq] at h) <;> (conv => whnf))
      | (refine .inl ⟨_, ac_member_of_2 x r2, ?_⟩; conv => whnf)
      | (refine ⟨_, _, ac_member_child_present m, (by kernel_rfl), ?_⟩; conv => whnf)
      | (refine .inl ⟨_, hc, ?_⟩; conv => whnf)
      | (refine .inl ⟨_, ac_member_level_2, ?_⟩; conv => whnf)
      | (refine And.intro (by (try simp only [Int.toNat_natCast]); omega) ?_; conv => whnf)
      | (refine And.intro (show (_ : Bool) = true from by kernel_rfl) ?_; conv => whnf)
      | (refine .inl ⟨wrap64 (by omega), ?_⟩; conv => whnf)))
    all_goals first
      | contradiction
      | (exfalso; omega)
      | (refine PSub.int ?_; unfold mayE leastQ; simp only [hb, hv]; (repeat' split) <;> first | rfl | omega | (simp_all [-List.getD_eq_getElem?_getD]; done) | (simp_all [-List.getD_eq_getElem?_getD]; omega))
      | skip
  by_cases r3 : x.role = 3
  · skip
    have hv : lvl x = 2 := by unfold lvl; rw [if_neg r1, if_neg r2, if_pos r3]
    have hc := ac_member_control H x (.ifc 134 (.agg [])) q hH hk hr (by rw [hv]; exact ac_member_level_3)
    have hb : herB x m = true := by unfold herB; rw [if_neg r1]
    refine AC.of_awp (T := T) T_ok hm Tryz.call41 Tryz.func41 rfl rfl rfl ?_
    conv => whnf
    repeat (any_goals (first
      | (refine ⟨fun (h : (_ : Bool) = true) => ?_, fun (h : (_ : Bool) = false) => ?_⟩ <;> (try simp only [decide_eq_true_eq, decide_eq_false_iff_not, Bool.not_eq_true', Bool.not_eq_false', Int.toNat_natCast, beq_iff_eq, decide_eq_decide, beq_eq_false_iff_ne, ne_eq, reduceCtorEq] at h) <;> (conv => whnf))
      | (refine .inl ⟨_, ac_member_of_3 x r3, ?_⟩; conv => whnf)
      | (refine ⟨_, _, ac_member_adult_present m, (by kernel_rfl), ?_⟩; conv => whnf)
      | (refine .inl ⟨_, hc, ?_⟩; conv => whnf)
      | (refine .inl ⟨_, ac_member_level_3, ?_⟩; conv => whnf)
      | (refine And.intro (by (try simp only [Int.toNat_natCast]); omega) ?_; conv => whnf)
      | (refine And.intro (show (_ : Bool) = true from by kernel_rfl) ?_; conv => whnf)
      | (refine .inl ⟨wrap64 (by omega), ?_⟩; conv => whnf)))
    all_goals first
      | contradiction
      | (exfalso; omega)
      | (refine PSub.int ?_; unfold mayE leastQ; simp only [hb, hv]; (repeat' split) <;> first | rfl | omega | (simp_all [-List.getD_eq_getElem?_getD]; done) | (simp_all [-List.getD_eq_getElem?_getD]; omega))
      | skip
  · skip
    have hv : lvl x = 3 := by unfold lvl; rw [if_neg r1, if_neg r2, if_neg r3]
    have hc := ac_member_control H x (.ifc 135 (.agg [])) q hH hk hr (by rw [hv]; exact ac_member_level_4)
    have hb : herB x m = true := by unfold herB; rw [if_neg r1]
    refine AC.of_awp (T := T) T_ok hm Tryz.call41 Tryz.func41 rfl rfl rfl ?_
    conv => whnf
    repeat (any_goals (first
      | (refine ⟨fun (h : (_ : Bool) = true) => ?_, fun (h : (_ : Bool) = false) => ?_⟩ <;> (try simp only [decide_eq_true_eq, decide_eq_false_iff_not, Bool.not_eq_true', Bool.not_eq_false', Int.toNat_natCast, beq_iff_eq, decide_eq_decide, beq_eq_false_iff_ne, ne_eq, reduceCtorEq] at h) <;> (conv => whnf))
      | (refine .inl ⟨_, ac_member_of_4 x r1 r2 r3, ?_⟩; conv => whnf)
      | (refine ⟨_, _, ac_member_owner_present m, (by kernel_rfl), ?_⟩; conv => whnf)
      | (refine .inl ⟨_, hc, ?_⟩; conv => whnf)
      | (refine .inl ⟨_, ac_member_level_4, ?_⟩; conv => whnf)
      | (refine And.intro (by (try simp only [Int.toNat_natCast]); omega) ?_; conv => whnf)
      | (refine And.intro (show (_ : Bool) = true from by kernel_rfl) ?_; conv => whnf)
      | (refine .inl ⟨wrap64 (by omega), ?_⟩; conv => whnf)))
    all_goals first
      | contradiction
      | (exfalso; omega)
      | (refine PSub.int ?_; unfold mayE leastQ; simp only [hb, hv]; (repeat' split) <;> first | rfl | omega | (simp_all [-List.getD_eq_getElem?_getD]; done) | (simp_all [-List.getD_eq_getElem?_getD]; omega))
      | skip
end Go.Abs

namespace Go.Abs
open Go.Proofs
set_option maxRecDepth 10000
theorem ac_slices_Clone_Span_p (n : Nat) (g : Nat → List PV) (hn : n ≤ 1048576) : AC Tryz.prog 53 [.pv (.ro 2 n g)] [] (.pv (.ro 2 n g)) [] := by
  refine AC.nil_split (pre := []) (post := []) ?_ (fun h => ?_)
  · refine AC.of_awp (T := T) T_ok hm Tryz.call53 Tryz.func53 rfl rfl rfl ?_
    conv => whnf
    refine ⟨by omega, ?_⟩
    conv => whnf
    exact PSub.ro (by omega) (fun i hi => by simpa using PSubs.rfl)
  · refine AC.of_awp (T := T) T_ok hm Tryz.call53 Tryz.func53 rfl rfl rfl ?_
    conv => whnf
    subst h
    exact PSub.nil_ro _ _
theorem ac_slices_Clone_string_p (n : Nat) (g : Nat → List PV) (hn : n ≤ 1048576) : AC Tryz.prog 54 [.pv (.ro 1 n g)] [] (.pv (.ro 1 n g)) [] := by
  refine AC.nil_split (pre := []) (post := []) ?_ (fun h => ?_)
  · refine AC.of_awp (T := T) T_ok hm Tryz.call54 Tryz.func54 rfl rfl rfl ?_
    conv => whnf
    refine ⟨by omega, ?_⟩
    conv => whnf
    exact PSub.ro (by omega) (fun i hi => by simpa using PSubs.rfl)
  · refine AC.of_awp (T := T) T_ok hm Tryz.call54 Tryz.func54 rfl rfl rfl ?_
    conv => whnf
    subst h
    exact PSub.nil_ro _ _
theorem ac_member_Find (l : List Mem) (s : ByteArray) (hg : goodM l) : AC Tryz.prog 19 [.pv (roL 5 cMem l), .pv (vstr s)] [] (.pv (.tup [.agg (cMem (mbrOf l s)), vbool (decide (mbrAt l s < l.length))])) [] := by
  have hl : l.length ≤ 1048576 := hg.1
  refine AC.of_awp (T := T) T_ok hm Tryz.call19 Tryz.func19 rfl rfl rfl ?_
  conv => whnf
  refine loop_k (ι := Nat) [1, 4, 8, 9] [4] (fun k => k ≤ l.length ∧ (∀ j, j < k → decide ((l.getD j default).name = s) = false)) (fun k => l.length - k) 0 (fun k => [(10, .pv (vint k))]) (fun _ => []) [] ⟨Nat.zero_le _, fun j h => absurd h (by omega)⟩ ?_ (fun k hk => ?_)
  · (repeat' (first | exact PSub.rfl | exact rfl | exact PSubs.rfl | exact trivial | exact PSub.lit_sb rfl | refine And.intro ?_ ?_))
  obtain ⟨hkn, hinv⟩ := hk
  conv => whnf
  refine ⟨fun h => ?_, fun h => ?_⟩ <;> (try simp only [decide_eq_true_eq, decide_eq_false_iff_not, Bool.not_eq_true', Bool.not_eq_false', Int.toNat_natCast, beq_iff_eq, decide_eq_decide, beq_eq_false_iff_ne, ne_eq, reduceCtorEq] at h) <;> (conv => whnf)
  · have hk := hg.2 k (by omega)
    repeat (any_goals (first
      | (refine ⟨fun (h : (_ : Bool) = true) => ?_, fun (h : (_ : Bool) = false) => ?_⟩ <;> (try simp only [decide_eq_true_eq, decide_eq_false_iff_not, Bool.not_eq_true', Bool.not_eq_false', Int.toNat_natCast, beq_iff_eq, decide_eq_decide, beq_eq_false_iff_ne, ne_eq, reduceCtorEq] at h) <;> (conv => whnf))
      | (refine .inl ⟨_, ac_slices_Clone_Span_p (l.getD k default).spans.length (fun i => cSpn ((l.getD k default).spans.getD i default)) hk.1, ?_⟩; conv => whnf)
      | (refine .inl ⟨_, ac_slices_Clone_string_p (l.getD k default).rooms.length (fun i => cstr ((l.getD k default).rooms.getD i default)) hk.2, ?_⟩; conv => whnf)
      | (refine And.intro (by (try simp only [Int.toNat_natCast]); omega) ?_; conv => whnf)
      | (refine And.intro (show (_ : Bool) = true from by kernel_rfl) ?_; conv => whnf)
      | (refine .inl ⟨wrap64 (by omega), ?_⟩; conv => whnf)))
    · have e : mbrAt l s = k := firstI_at (by omega) (by simpa [-List.getD_eq_getElem?_getD] using h) hinv
      rw [mbrOf, e, if_pos (by omega)]
      refine ⟨?_, ?_⟩ <;> (conv => whnf)
      · exact .rfl
      · exact PSub.lit_sb (by simp; omega)
    · refine ⟨k + 1, [], ⟨by omega, ?_⟩, by first | omega | (dsimp only; omega), ?_⟩
      rotate_left
      · (repeat' (first | exact PSub.rfl | exact rfl | exact PSubs.rfl | exact trivial | exact PSub.lit_sb rfl | refine And.intro ?_ ?_))
      intro j hj
      by_cases e : j = k
      · subst e; first | exact h | simpa [-List.getD_eq_getElem?_getD] using h | simp_all [-List.getD_eq_getElem?_getD]
      · exact hinv j (by omega)
  · have e : mbrAt l s = l.length := firstI_none fun j hj => hinv j (by omega)
    rw [mbrOf, e, if_neg (by omega)]
    refine ⟨?_, ?_⟩ <;> (conv => whnf)
    · exact PSub.agg ⟨.rfl, .rfl, PSub.nil_ro _ _, PSub.nil_ro _ _, PSub.lit_sb rfl, trivial⟩
    · exact PSub.lit_sb (by simp)
theorem ac_member_Can (H : Hom) (l : List Mem) (s : ByteArray) (m : Int) (q : Rqs) (hH : smallH H) (hk : smallL (keysL H q.key.dev)) (hg : goodM l) :
    AC Tryz.prog 14 [.pv (.agg (cHom H)), .pv (roL 5 cMem l), .pv (vstr s), .pv (vint m), .pv (.agg (cRqs q))] [] (.pv (vint (canE H l s m q))) [] := by
  have ho : smallL (mbrOf l s).spans ∧ smallL (mbrOf l s).rooms := by
    unfold mbrOf; split
    · exact hg.2 _ ‹_›
    · exact ⟨show (0 : Nat) ≤ 1048576 by decide, show (0 : Nat) ≤ 1048576 by decide⟩
  refine AC.of_awp (T := T) T_ok hm Tryz.call14 Tryz.func14 rfl rfl rfl ?_
  conv => whnf
  repeat (any_goals (first
    | (refine ⟨fun (h : (_ : Bool) = true) => ?_, fun (h : (_ : Bool) = false) => ?_⟩ <;> (try simp only [decide_eq_true_eq, decide_eq_false_iff_not, Bool.not_eq_true', Bool.not_eq_false', Int.toNat_natCast, beq_iff_eq, decide_eq_decide, beq_eq_false_iff_ne, ne_eq, reduceCtorEq] at h) <;> (conv => whnf))
    | (refine .inl ⟨_, ac_member_Check H l hH hg, ?_⟩; conv => whnf)
    | (refine .inl ⟨_, ac_member_Find l s hg, ?_⟩; conv => whnf)
    | (refine .inl ⟨_, ac_member_may H (mbrOf l s) m q hH hk ho.1 ho.2, ?_⟩; conv => whnf)
    | (refine And.intro (by (try simp only [Int.toNat_natCast]); omega) ?_; conv => whnf)
    | (refine And.intro (show (_ : Bool) = true from by kernel_rfl) ?_; conv => whnf)
    | (refine .inl ⟨wrap64 (by omega), ?_⟩; conv => whnf)))
  · exact PSub.int (by rw [canE, if_pos h])
  · rename_i h0
    exact PSub.int (by rw [canE, if_neg (fun x => x h0), if_pos (by simpa using h)])
  · rename_i h0
    exact PSub.int (by rw [canE, if_neg (fun x => x h0), if_neg (by simpa using h)])
end Go.Abs

namespace Go.Abs
open Go.Proofs
set_option maxRecDepth 10000
theorem ac_r47_index (l : List Mem) (n : Nat) (s : ByteArray) (hl : n ≤ 1048576) : AC Tryz.prog 39 [.pv (.ro 5 n fun i => cMem (l.getD i default)), .pv (vstr s)] [] (.pv (vint (ixI n (firstI n fun i => decide ((l.getD i default).name = s))))) [] := by
  refine AC.of_awp (T := T) T_ok hm Tryz.call39 Tryz.func39 rfl rfl rfl ?_
  conv => whnf
  refine loop_k (ι := Nat) [0, 1] [] (fun k => k ≤ n ∧ (∀ j, j < k → decide ((l.getD j default).name = s) = false)) (fun k => n - k) 0 (fun k => [(5, .pv (vint k))]) (fun _ => []) [] ⟨Nat.zero_le _, fun j h => absurd h (by omega)⟩ ?_ (fun k hk => ?_)
  · (repeat' (first | exact PSub.rfl | exact rfl | exact PSubs.rfl | exact trivial | exact PSub.lit_sb rfl | refine And.intro ?_ ?_))
  obtain ⟨hkn, hinv⟩ := hk
  conv => whnf
  repeat (any_goals (first
    | (refine ⟨fun (h : (_ : Bool) = true) => ?_, fun (h : (_ : Bool) = false) => ?_⟩ <;> (try simp only [decide_eq_true_eq, decide_eq_false_iff_not, Bool.not_eq_true', Bool.not_eq_false', Int.toNat_natCast, beq_iff_eq, decide_eq_decide, beq_eq_false_iff_ne, ne_eq, reduceCtorEq] at h) <;> (conv => whnf))
    | (refine And.intro (by (try simp only [Int.toNat_natCast]); omega) ?_; conv => whnf)
    | (refine And.intro (show (_ : Bool) = true from by kernel_rfl) ?_; conv => whnf)
    | (refine .inl ⟨wrap64 (by omega), ?_⟩; conv => whnf)))
  · exact PSub.int (by rw [firstI_at (k := k) (by omega) (by simpa [-List.getD_eq_getElem?_getD] using h) hinv, ixI, if_pos (by omega)])
  · refine ⟨k + 1, [], ⟨by omega, ?_⟩, by first | omega | (dsimp only; omega), ?_⟩
    rotate_left
    · (repeat' (first | exact PSub.rfl | exact rfl | exact PSubs.rfl | exact trivial | exact PSub.lit_sb rfl | refine And.intro ?_ ?_))
    intro j hj
    by_cases e : j = k
    · subst e; first | exact h | simpa [-List.getD_eq_getElem?_getD] using h | simp_all [-List.getD_eq_getElem?_getD]
    · exact hinv j (by omega)
  · exact PSub.int (by rw [firstI_none (fun j hj => hinv j (by omega)), ixI, if_neg (Nat.lt_irrefl _)])
end Go.Abs

namespace Go.Abs
open Go.Proofs Go.RowKit
set_option maxRecDepth 10000
structure MeC where
  name : ByteArray
  minute : Int
  q : Rqs
  home : Bool
def smallM (m : Mem) : Prop := smallL m.spans ∧ smallL m.rooms
section
variable {H : Type} {enc : TypeId × Value → H} {w : World} {bulk : DataW H → Nat}
theorem op_MemberG (hB : BulkOk bulk) : Opens enc Tryz.prog w bulk BB 47 cMem smallM :=
  (Opens.struct hB Tryz.underlying47 (by kernel_rfl) (.cons (size := 1) rfl (by kernel_rfl) (op_string hB) (.cons (size := 1) rfl (by kernel_rfl) op_int (.cons (size := 1) rfl (by kernel_rfl) (op_l_Span hB) (.cons (size := 1) rfl (by kernel_rfl) (op_l_string hB) (.cons (size := 1) rfl (by kernel_rfl) op_bool .nil)))))).imp
    (fun x => ⟨x.1, x.2.1, x.2.2.1, x.2.2.2.1, x.2.2.2.2.1⟩) (fun _ => rfl) (fun _ h => ⟨h.2.2.1, h.2.2.2.1⟩)
theorem op_l_MemberG (hB : BulkOk bulk) : Opens enc Tryz.prog w bulk BB 26 (fun l : List Mem => [roL 5 cMem l]) goodM :=
  (Opens.slice hB Tryz.underlying26 (by kernel_rfl) (by decide) (op_MemberG hB)).imp id (fun _ => rfl) (fun _ h => h)
end
end Go.Abs

namespace Go.Proofs
open Go.Shelf
def Tryz.sortKey_ren : Go.Shelf.Ren := ⟨fun | 6 => 48 | 15 => 85 | 14 => 84 | 28 => 109 | 29 => 110 | 20 => 101 | 21 => 102 | 22 => 103 | 23 => 104 | 24 => 105 | 25 => 106 | 26 => 107 | 27 => 108 | 46 => 130 | 47 => 131 | 48 => 132 | 49 => 133 | 50 => 134 | 57 => 147 | n => n, fun | 22 => 42 | 24 => 32 | 25 => 89 | 3 => 3 | 39 => 121 | 0 => 0 | 53 => 145 | 55 => 65 | 4 => 4 | 46 => 138 | 45 => 137 | 50 => 142 | 5 => 5 | 9 => 9 | 66 => 159 | 70 => 163 | 76 => 177 | 77 => 178 | n => n, fun | n => n⟩
theorem Tryz.sortKey : Go.Proofs.SlLaysF0.n6 Tryz.prog Tryz.sortKey_ren := {
  mixed := by kernel_rfl
  f6 := ⟨Tryz.f48.name, by decide, Tryz.func48.trans (congrArg some (by kernel_rfl))⟩
  f14 := ⟨Tryz.f84.name, by decide, Tryz.func84.trans (congrArg some (by kernel_rfl))⟩
  f15 := Tryz.func85.trans (congrArg some (by kernel_rfl))
  f20 := ⟨Tryz.f101.name, by decide, Tryz.func101.trans (congrArg some (by kernel_rfl))⟩
  f21 := ⟨Tryz.f102.name, by decide, Tryz.func102.trans (congrArg some (by kernel_rfl))⟩
  f22 := ⟨Tryz.f103.name, by decide, Tryz.func103.trans (congrArg some (by kernel_rfl))⟩
  f23 := ⟨Tryz.f104.name, by decide, Tryz.func104.trans (congrArg some (by kernel_rfl))⟩
  f24 := ⟨Tryz.f105.name, by decide, Tryz.func105.trans (congrArg some (by kernel_rfl))⟩
  f25 := ⟨Tryz.f106.name, by decide, Tryz.func106.trans (congrArg some (by kernel_rfl))⟩
  f26 := ⟨Tryz.f107.name, by decide, Tryz.func107.trans (congrArg some (by kernel_rfl))⟩
  f27 := ⟨Tryz.f108.name, by decide, Tryz.func108.trans (congrArg some (by kernel_rfl))⟩
  f28 := Tryz.func109.trans (congrArg some (by kernel_rfl))
  f29 := Tryz.func110.trans (congrArg some (by kernel_rfl))
  f46 := ⟨Tryz.f130.name, by decide, Tryz.func130.trans (congrArg some (by kernel_rfl))⟩
  f47 := Tryz.func131.trans (congrArg some (by kernel_rfl))
  f48 := Tryz.func132.trans (congrArg some (by kernel_rfl))
  f49 := ⟨Tryz.f133.name, by decide, Tryz.func133.trans (congrArg some (by kernel_rfl))⟩
  f50 := ⟨Tryz.f134.name, by decide, Tryz.func134.trans (congrArg some (by kernel_rfl))⟩
  f57 := ⟨Tryz.f147.name, by decide, Tryz.func147.trans (congrArg some (by kernel_rfl))⟩
  t0 := Tryz.underlying0
  a0 := Tryz.isAgg0
  z0 := Tryz.sizeOf0
  v0 := Tryz.zeroValue0
  t3 := Tryz.underlying3
  a3 := Tryz.isAgg3
  z3 := Tryz.sizeOf3
  v3 := Tryz.zeroValue3
  t4 := Tryz.underlying4
  a4 := Tryz.isAgg4
  z4 := Tryz.sizeOf4
  v4 := Tryz.zeroValue4
  t5 := Tryz.underlying5
  a5 := Tryz.isAgg5
  z5 := Tryz.sizeOf5
  v5 := Tryz.zeroValue5
  t9 := Tryz.underlying9
  a9 := Tryz.isAgg9
  z9 := Tryz.sizeOf9
  v9 := Tryz.zeroValue9
  t22 := Tryz.underlying42
  a22 := Tryz.isAgg42
  z22 := Tryz.sizeOf42
  v22 := Tryz.zeroValue42
  t25 := Tryz.underlying89
  a25 := Tryz.isAgg89
  z25 := Tryz.sizeOf89
  v25 := Tryz.zeroValue89
  t39 := Tryz.underlying121
  a39 := Tryz.isAgg121
  z39 := Tryz.sizeOf121
  v39 := Tryz.zeroValue121
  t45 := Tryz.underlying137
  a45 := Tryz.isAgg137
  z45 := Tryz.sizeOf137
  v45 := Tryz.zeroValue137
  t46 := Tryz.underlying138
  a46 := Tryz.isAgg138
  z46 := Tryz.sizeOf138
  v46 := Tryz.zeroValue138
  t50 := Tryz.underlying142
  a50 := Tryz.isAgg142
  z50 := Tryz.sizeOf142
  v50 := Tryz.zeroValue142
  t53 := Tryz.underlying145
  a53 := Tryz.isAgg145
  z53 := Tryz.sizeOf145
  v53 := Tryz.zeroValue145
  t55 := Tryz.underlying65
  a55 := Tryz.isAgg65
  z55 := Tryz.sizeOf65
  v55 := Tryz.zeroValue65
  t66 := Tryz.underlying159
  a66 := Tryz.isAgg159
  z66 := Tryz.sizeOf159
  v66 := Tryz.zeroValue159
  t70 := Tryz.underlying163
  a70 := Tryz.isAgg163
  z70 := Tryz.sizeOf163
  v70 := Tryz.zeroValue163
  t76 := Tryz.underlying177
  a76 := Tryz.isAgg177
  z76 := Tryz.sizeOf177
  v76 := Tryz.zeroValue177
  t77 := Tryz.underlying178
  a77 := Tryz.isAgg178
  z77 := Tryz.sizeOf178
  v77 := Tryz.zeroValue178 }
end Go.Proofs

namespace Go.Abs
open Go.RowKit Go.Shelf Go.Sort
variable [Globals]
theorem grown_of_ext {w w' : World} (ho : w'.os = w.os) (ht : w'.tape = w.tape) (hp : w'.output = w.output) (hs : w.heap.size ≤ w'.heap.size) (hb : ∀ b, b < w.heap.size → w'.heap[b]? = w.heap[b]?) (hd : w.drawn ≤ w'.drawn) :
    ∃ q os', w' = grow (w.drewN q) os' := by
  refine ⟨w'.drawn - w.drawn, w'.heap.extract w.heap.size w'.heap.size, ?_⟩
  obtain ⟨heap, tape, drawn, os, output⟩ := w
  obtain ⟨heap', tape', drawn', os', output'⟩ := w'
  simp only at *
  subst ho; subst ht; subst hp
  simp only [grow, World.drewN, World.mk.injEq, true_and, and_true]
  refine ⟨?_, by omega⟩
  apply Array.ext_getElem?
  intro i
  rw [Array.getElem?_append]
  split
  · rename_i h; exact hb i h
  · rename_i h
    by_cases h2 : i < heap'.size
    · rw [Array.getElem?_extract]
      rw [if_pos (by omega)]
      congr 1; omega
    · rw [Array.getElem?_eq_none (by omega), Array.getElem?_eq_none (by simp; omega)]
section
variable {P : Program} {ρ : Ren} {α : Type} [Inhabited α]
theorem sortWorld_same {encV : α → List Value} {k : Nat} {M : Nat → Prop} {w : World} {b m : Nat} {dk : Array α} {os : Array Obj} (hb : M b) : Same M w (Proofs.sortWorldK encV k w b 0 m dk os) := by
  unfold Proofs.sortWorldK grow
  refine ⟨by simp [putRowK, Sort.ahead], fun c hc hm => ?_⟩
  have hne : b ≠ c := fun e => hm (e ▸ hb)
  show ((putRowK encV k (Sort.ahead w m) b 0 dk).heap ++ os)[c]? = _
  rw [Array.getElem?_append_left (by simp [putRowK, Sort.ahead]; exact hc)]
  simp only [putRowK, putRow, mapBlock, Sort.ahead]
  rw [Array.getElem?_modify]
  simp [hne]
theorem agg_vals {W : World} {M : Nat → Prop} {l : List Value} (h1 : ∀ v ∈ l, v.oneCell' = true) : PR W M (.agg (l.map .val)) (.agg l.toArray) := by
  refine .agg _ _ (by simp) (fun i p e => ?_) (fun i hi' => ?_)
  · rw [List.getElem?_map] at e
    cases hq : l[i]? with
    | none => rw [hq] at e; cases e
    | some q =>
      rw [hq] at e; cases e
      have : l.toArray.getD i undef = q := by simp [Array.getD_eq_getD_getElem?, hq]
      rw [this]; exact .val q
  · have hlt : i < l.length := by simpa using hi'
    have := h1 l[i] (List.getElem_mem hlt)
    simpa [Array.getD, hlt] using this
theorem two_args {W : World} {St M : Nat → Prop} {σ : Sig} {p q : PV} {u v : Value} (hu : PR W M p u) (hv : PR W M q v) : ∀ (i : Nat) (z : AV), [AV.pv p, AV.pv q][i]? = some z → AR P W St M σ z (#[u, v].getD i undef) := by
  intro i z e
  match i, e with
  | 0, e => cases e; exact .pv _ _ hu
  | 1, e => cases e; exact .pv _ _ hv
  | i + 2, e => simp at e
theorem ac_grown {g : FuncId} {p q : PV} {n : Int} (h : AC P g [.pv p, .pv q] [] (.pv (.val (.int .i64 n))) []) {M : Nat → Prop} {W : World} {u v : Value} (hM : ∀ b, M b → b < W.heap.size) (hG : Glob W M) (hu : PR W M p u) (hv : PR W M q v) :
    Calls P g #[u, v] W fun e w' => e = .returned (.int .i64 n) ∧ ∃ r os', w' = grow (W.drewN r) os' := by
  have hMo : ∀ b, Mof M (fun _ => none) b ↔ M b := fun b => ⟨fun h => h.elim id (fun ⟨l, loc, e, _⟩ => (by cases e)), fun h => .inl h⟩
  have hMe : Mof M (fun _ => none) = M := funext fun b => propext (hMo b)
  have hinv : Inv (fun _ => False) M (fun _ => none) W := by
    refine ⟨fun l l' loc loc' c e => (by cases e), fun c ⟨l, loc, e, _⟩ => (by cases e), fun c h => ⟨hM c h, fun ⟨l, loc, e, _⟩ => by cases e⟩, fun c h => h.elim, ?_⟩
    rw [hMe]; exact hG
  refine (h.2 (fun _ => False) M (fun _ => none) W #[u, v] hinv (fun _ _ => rfl) (fun l o e => by simp [getO] at e) rfl (two_args (by rw [hMe]; exact hu) (by rw [hMe]; exact hv))).mono (fun e w' he => ?_)
  obtain ⟨v, σ', rfl, hp⟩ := he
  have hv := pr_val (arg_pv hp.val)
  subst hv
  refine ⟨rfl, grown_of_ext hp.ext.os hp.ext.tape hp.ext.output hp.ext.size (fun c hc => hp.ext.block c hc ?_) hp.ext.drawn⟩
  rintro ⟨l, loc, h, _⟩
  exact h rfl
theorem cmpLays_of_ac {g : FuncId} {encV : α → List Value} {k : Nat} {cf : α → α → Int} (h1 : ∀ x, ∀ v ∈ encV x, v.oneCell' = true)
    (hg : ∀ x y, AC P g [.pv (.agg ((encV x).map .val)), .pv (.agg ((encV y).map .val))] [] (.pv (.val (.int .i64 (cf x y)))) [])
    {St M0 : Nat → Prop} {σ : Sig} {w : World} (hi : Inv St M0 σ w) {b size : Nat} (hb : owned σ b) : Proofs.CmpLays P g #[] encV k cf b 0 size w := by
  intro m os dk hdk x y
  have hsame : Same (Mof M0 σ) w (Proofs.sortWorldK encV k w b 0 m dk os) := sortWorld_same (.inr hb)
  rw [Array.append_empty]
  exact ac_grown (hg x y) (M := Mof M0 σ) (fun c h => Nat.lt_of_lt_of_le (h.elim (fun h => (hi.m0 c h).1) (hi.lt c)) hsame.1) (hi.gl.mono hsame (fun c _ h => h)) (agg_vals (h1 x)) (agg_vals (h1 y))
theorem sortWorld_ext {encV : α → List Value} {k : Nat} {w : World} {b n : Nat} {d : Array α} {os : Array Obj} : FExt (fun c => c = b) w (Proofs.sortWorldK encV k w b 0 n d os) := by
  refine ⟨rfl, rfl, rfl, by simp [Proofs.sortWorldK, grow, putRowK, Sort.ahead], fun c hc hne => ?_, by simp [Proofs.sortWorldK, grow, putRowK, putRow, mapBlock, Sort.ahead]⟩
  show ((putRowK encV k (Sort.ahead w n) b 0 d).heap ++ os)[c]? = _
  rw [Array.getElem?_append_left (by simp [putRowK, Sort.ahead]; exact hc)]
  simp only [putRowK, putRow, mapBlock, Sort.ahead]
  rw [Array.getElem?_modify]
  simp [Ne.symm hne]
theorem sortWorld_row {encV : α → List Value} {k : Nat} {w : World} {b n : Nat} {d : Array α} {os : Array Obj} {vs : Array Value} {t : TypeId} (hb : w.heap[b]? = some (.cells vs t (0, 0))) :
    (Proofs.sortWorldK encV k w b 0 n d os).heap[b]? = some (.cells (Sort.putCells id 0 (flatK encV k d) vs) t (0, 0)) := by
  have hlt := lt_of_block hb
  show ((putRowK encV k (Sort.ahead w n) b 0 d).heap ++ os)[b]? = _
  rw [Array.getElem?_append_left (by simp [putRowK, Sort.ahead]; exact hlt)]
  simp only [putRowK, putRow, mapBlock, Sort.ahead]
  rw [Array.getElem?_modify]
  simp [hb, onCells]
theorem AC.sortFunc (L : Proofs.SlLaysF0.n6 P ρ) (k : Nat) (aE : ∀ w, (isAgg (ρ.t 24)).run P w = .ok true w) (zE : ∀ w, (Go.sizeOf (ρ.t 24)).run P w = .ok k w) (encV : α → List Value) (hk : ∀ x, (encV x).length = k) (h1 : ∀ x, ∀ v ∈ encV x, v.oneCell' = true) (cf : α → α → Int) (hO : SWO (Proofs.ltOf cf)) (g : FuncId)
    (hg : ∀ x y, AC P g [.pv (.agg ((encV x).map .val)), .pv (.agg ((encV y).map .val))] [] (.pv (.val (.int .i64 (cf x y)))) []) (hT : ∀ x y, Proofs.ltOf cf x y = false → Proofs.ltOf cf y x = false → x = y)
    (hcall : ∀ (vals : Array Value) (w : World), (callFunc (ρ.f 6) vals).run P w = .ok (.enter (ρ.f 6) vals) w) (l : List α) (hl : l.length < 4611686018427387904) :
    AC P (ρ.f 6) [.own 0, .fn g []] [(0, .row k l.length fun i => (encV (l.getD i default)).map .val)] (.pv (.tup [])) [(0, .row k l.length fun i => (encV ((l.mergeSort fun x y => !(Proofs.ltOf cf) y x).getD i default)).map .val)] := by
  refine ⟨hcall, fun St M0 σ w vals hi hσ hos hsz hA => ?_⟩
  obtain ⟨loc, hloc, hor⟩ := hos 0 _ (by simp [getO]; rfl)
  have hv0 := arg_own (hA 0 (.own 0) rfl) hloc
  have hv1 := hA 1 (.fn g []) rfl
  have hvals : vals = #[vals.getD 0 undef, vals.getD 1 undef] := by
    have hs2 : vals.size = 2 := hsz
    apply Array.ext
    · simpa using hs2
    · intro i h2 h3
      have : i = 0 ∨ i = 1 := by omega
      rcases this with rfl | rfl <;> simp [Array.getD, hs2]
  have hfv : vals.getD 1 undef = .func (.func g) #[] #[] := by
    generalize vals.getD 1 undef = v at hv1
    cases hv1 with
    | fn f caps vs hlc _ =>
      have : vs = #[] := by simpa using hlc
      rw [this]
  rw [hvals, hv0, hfv]
  have done : ∀ w' : World, w' = w → l.length = 0 → ∃ v σ', Ending.returned (.tuple #[]) = .returned v ∧ Post P St M0 σ w [(0, .row k l.length fun i => (encV ((l.mergeSort fun x y => !(Proofs.ltOf cf) y x).getD i default)).map .val)] (.pv (.tup [])) σ' v w' := by
    rintro w' rfl hl0
    refine ⟨_, σ, rfl, Post.redo hi ⟨loc, hloc, ?_⟩ (.pv _ _ (.tup _ _ rfl fun i p e => by simp at e))⟩
    have h0 : l = [] := List.length_eq_zero_iff.1 hl0
    subst h0
    simpa using hor
  generalize hn0 : l.length = n0 at hor
  cases hor with
  | row0 _ _ a =>
    refine (Proofs.AnyF.slices_SortFunc_none L a 0 _ w).mono (fun e w' h => ?_)
    obtain ⟨rfl, hw⟩ := h
    have h5 := done w' hw hn0
    rw [hn0] at h5
    exact h5
  | row _ _ _ b cap vs t hb hn hmax hsz' hs hh hone =>
    subst hn0
    by_cases h0 : l.length = 0
    · have none' : ∀ n, n = 0 → Calls P (ρ.f 6) #[.slice (some ⟨b, 0, none⟩) n cap, .func (.func g) #[] #[]] w fun e w' => e = .returned (.tuple #[]) ∧ w' = w := by
        intro n hn
        rw [hn]
        exact Proofs.AnyF.slices_SortFunc_none L (some ⟨b, 0, none⟩) cap (.func (.func g) #[] #[]) w
      have := none' l.length h0
      refine this.mono (fun e w' h => ?_)
      obtain ⟨rfl, hw⟩ := h
      exact done w' hw h0
    · have hblk := lt_of_block hb
      have hget : ∀ j, j < l.length * k → vs.getD j undef = (flatK encV k l.toArray)[j]! := by
        intro j hj
        have k0 : 0 < k := by rcases Nat.eq_zero_or_pos k with h | h; · subst h; simp at hj
                              · exact h
        have hd : j / k < l.length := (Nat.div_lt_iff_lt_mul k0).2 hj
        have hm : j % k < (encV (l.getD (j / k) default)).length := by rw [hk]; exact Nat.mod_lt _ k0
        have hp := hh (j / k) hd (j % k) (.val ((encV (l.getD (j / k) default))[j % k]'hm)) (by simp [hm])
        have hp := pr_val hp
        rw [show j / k * k + j % k = j from by rw [Nat.mul_comm]; exact Nat.div_add_mod j k] at hp
        rw [hp, get_flatK _ _ _ _ (by simpa using hj)]
        have e1 : l.toArray[j / k]! = l.getD (j / k) default := by simp [List.getD, hd]
        rw [e1, getElem!_pos (encV (l.getD (j / k) default)) (j % k) hm]
      have hH : HoldsK encV k w b 0 l.toArray := by
        intro j hj
        have hj' : j < l.length * k := by simpa using hj
        have hlt : j < vs.size := by rw [hsz']; exact Nat.lt_of_lt_of_le hj' (Nat.mul_le_mul_right _ hn)
        refine ⟨?_, ?_⟩
        · rw [Nat.zero_add, id, ← hget j hj']
          simp [World.cell?, hb, Array.getD, hlt]
        · simp [World.frozen?, hb]
      have hown : owned σ b := ⟨0, _, hloc, rfl⟩
      have := Proofs.AnyQ.slices_SortFunc_total L k aE zE encV hk h1 cf hO g #[] b 0 cap l.toArray w (hg default default).1 (cmpLays_of_ac h1 hg hi hown) hH hblk (by simpa using hl) hT
      have e0 : (l.toArray).size = l.length := by simp
      rw [e0] at this
      refine this.mono ?_
      rintro e w' ⟨rfl, n, os, rfl⟩
      have hx := sortWorld_ext (encV := encV) (k := k) (w := w) (b := b) (n := n) (d := (l.toArray.toList.mergeSort fun x y => !(Proofs.ltOf cf) y x).toArray) (os := os)
      have hrow := sortWorld_row (encV := encV) (k := k) (w := w) (b := b) (n := n) (d := (l.toArray.toList.mergeSort fun x y => !(Proofs.ltOf cf) y x).toArray) (os := os) hb
      have hlm : (l.mergeSort fun x y => !(Proofs.ltOf cf) y x).length = l.length := List.length_mergeSort _
      refine ⟨_, σ, rfl, Post.upd hi hloc rfl hx (by simp) (.row _ _ _ b cap _ t hrow hn hmax (by simp [Sort.putCells, hsz']) (fun i hi' => by simp [hk]) (fun i hi' j p e => ?_) (fun i hi' => ?_)) (.pv _ _ (.tup _ _ rfl fun i p e => by simp at e))⟩
      · rw [List.getElem?_map] at e
        cases hq : (encV ((l.mergeSort fun x y => !(Proofs.ltOf cf) y x).getD i default))[j]? with
        | none => rw [hq] at e; cases e
        | some q =>
          rw [hq] at e; cases e
          have hj : j < k := by have := (List.getElem?_eq_some_iff.1 hq).1; rwa [hk] at this
          have hlt : i * k + j < l.length * k := idx_lt hi' hj
          have hltv : i * k + j < vs.size := by rw [hsz']; exact Nat.lt_of_lt_of_le hlt (Nat.mul_le_mul_right _ hn)
          have : (Sort.putCells id 0 (flatK encV k (l.toArray.toList.mergeSort fun x y => !(Proofs.ltOf cf) y x).toArray) vs).getD (i * k + j) undef = q := by
            simp only [Sort.putCells, Array.getD, Array.size_mapIdx, hltv, dif_pos, Array.getInternal_eq_getElem, Array.getElem_mapIdx]
            rw [if_pos (by simp [hlm]; exact hlt)]
            rw [Nat.sub_zero, id, get_flatK _ _ _ _ (by simp [hlm]; exact hlt)]
            have e1 : (i * k + j) / k = i := by rw [Nat.add_comm, Nat.add_mul_div_right _ _ (by omega), Nat.div_eq_of_lt hj, Nat.zero_add]
            have e2 : (i * k + j) % k = j := by rw [Nat.add_comm, Nat.add_mul_mod_self_right, Nat.mod_eq_of_lt hj]
            rw [e1, e2]
            have e3 : (l.toArray.toList.mergeSort fun x y => !(Proofs.ltOf cf) y x).toArray[i]! = (l.mergeSort fun x y => !(Proofs.ltOf cf) y x).getD i default := by
              have : i < (l.mergeSort fun x y => !(Proofs.ltOf cf) y x).length := by omega
              simp [List.getD, this]
            rw [e3]
            have hj2 := (List.getElem?_eq_some_iff.1 hq)
            obtain ⟨h3, h4⟩ := hj2
            rw [getElem!_pos (encV ((l.mergeSort fun x y => !(Proofs.ltOf cf) y x).getD i default)) j h3, h4]
          rw [this]; exact .val q
      · have hltv : i < vs.size := by simpa [Sort.putCells] using hi'
        simp only [Sort.putCells, Array.getD, Array.size_mapIdx, hltv, dif_pos, Array.getInternal_eq_getElem, Array.getElem_mapIdx]
        split
        · rename_i hc
          have hf : i - 0 < (flatK encV k (l.toArray.toList.mergeSort fun x y => !(Proofs.ltOf cf) y x).toArray).size := by
            have := hc.2
            simp only [Nat.zero_add, Nat.sub_zero] at this ⊢
            exact this
          have k0 : 0 < k := by rcases Nat.eq_zero_or_pos k with h | h; · subst h; simp at hf
                                · exact h
          rw [id, get_flatK _ _ _ _ (by simpa using hf)]
          have hm : (i - 0) % k < (encV (l.toArray.toList.mergeSort fun x y => !(Proofs.ltOf cf) y x).toArray[(i - 0) / k]!).length := by rw [hk]; exact Nat.mod_lt _ k0
          rw [getElem!_pos (encV (l.toArray.toList.mergeSort fun x y => !(Proofs.ltOf cf) y x).toArray[(i - 0) / k]!) ((i - 0) % k) hm]
          exact h1 _ _ (List.getElem_mem hm)
        · have := hone i hltv
          simpa [Array.getD, hltv] using this
end
end Go.Abs

namespace Go.Abs
open Go.Proofs
set_option maxRecDepth 10000
theorem ac_slices_SortFunc_Key (g : FuncId) (hg : ∀ a b, AC Tryz.prog g [.pv (.agg (cKey a)), .pv (.agg (cKey b))] [] (.pv (vint (cmpK a b))) []) (l : List Key) (hl : l.length ≤ 8388608) :
    AC Tryz.prog 48 [.own 0, .fn g []] [(0, rowL 3 cKey l)] (.pv (.tup [])) [(0, rowL 3 cKey (sortedK l))] := by
  have := AC.sortFunc (α := Key) Tryz.sortKey 3 Tryz.isAgg32 Tryz.sizeOf32 vKey (fun _ => rfl) (fun x v hv => by simp [vKey] at hv; rcases hv with rfl | rfl | rfl <;> rfl) cmpK swo_cmpK g hg parts_cmpK Tryz.call48 l (by omega)
  rw [sortedK_eq] at this
  unfold rowL
  rw [sortedK_length]
  exact this
end Go.Abs

namespace Go.Abs
open Go.Proofs
set_option maxRecDepth 10000
theorem ac_member_Rights_1 (a b : Key) : AC Tryz.prog 49 [.pv (.agg (cKey a)), .pv (.agg (cKey b))] [] (.pv (vint (cmpK a b))) [] := by
  refine AC.of_awp (T := T) T_ok hm Tryz.call49 Tryz.func49 rfl rfl rfl ?_
  conv => whnf
  repeat (any_goals (first
    | (refine ⟨fun (h : (_ : Bool) = true) => ?_, fun (h : (_ : Bool) = false) => ?_⟩ <;> (try simp only [decide_eq_true_eq, decide_eq_false_iff_not, Bool.not_eq_true', Bool.not_eq_false', Int.toNat_natCast, beq_iff_eq, decide_eq_decide, beq_eq_false_iff_ne, ne_eq, reduceCtorEq] at h) <;> (conv => whnf))
    | (refine .inl ⟨_, ac_device_Less a b, ?_⟩; conv => whnf)
    | (refine .inl ⟨_, ac_device_Less b a, ?_⟩; conv => whnf)
    | (refine And.intro (by (try simp only [Int.toNat_natCast]); omega) ?_; conv => whnf)
    | (refine And.intro (show (_ : Bool) = true from by kernel_rfl) ?_; conv => whnf)
    | (refine .inl ⟨wrap64 (by omega), ?_⟩; conv => whnf)))
  all_goals (try simp only [decide_eq_true_eq, decide_eq_false_iff_not, Bool.not_eq_true', Bool.not_eq_false', Int.toNat_natCast, beq_iff_eq, decide_eq_decide, beq_eq_false_iff_ne, ne_eq, reduceCtorEq] at *)
  all_goals first
    | contradiction
    | (exfalso; omega)
    | exact PSub.rfl
    | (refine PSub.int ?_; simp only [cmpK]; (repeat' split) <;> first | rfl | omega | (simp_all [-List.getD_eq_getElem?_getD]; done) | (simp_all [-List.getD_eq_getElem?_getD]; omega))
    | (refine PSub.sb ?_; simp_all [cmpK, -List.getD_eq_getElem?_getD]; done)
    | (refine PSub.lit_sb ?_; simp_all [cmpK, -List.getD_eq_getElem?_getD]; done)
    | (refine PSub.sb_lit ?_; simp_all [cmpK, -List.getD_eq_getElem?_getD]; done)
    | (refine PSub.sb ?_; rw [Bool.eq_iff_iff]; simp_all [cmpK, -List.getD_eq_getElem?_getD]; done)
    | (refine PSub.lit_sb ?_; rw [Bool.eq_iff_iff]; simp_all [cmpK, -List.getD_eq_getElem?_getD]; done)
    | (refine PSub.sb_lit ?_; rw [Bool.eq_iff_iff]; simp_all [cmpK, -List.getD_eq_getElem?_getD]; done)
    | skip
def pickTo [Globals] (p : Key → Bool) (H : Hom) (k : Nat) : List Key := (H.devices.take k).flatMap fun d => (keysL H d.id).filter p
theorem pickTo_snoc [Globals] {p : Key → Bool} {H : Hom} {k : Nat} (hk : k < H.devices.length) : pickTo p H (k + 1) = pickTo p H k ++ (keysL H (H.devices.getD k default).id).filter p := by
  unfold pickTo
  rw [take_succ_getD hk, List.flatMap_append]
  simp [-List.getD_eq_getElem?_getD]
theorem pickTo_length [Globals] (p : Key → Bool) (H : Hom) : ∀ k, (pickTo p H k).length ≤ k * 48
  | 0 => by simp [pickTo]
  | k + 1 => by
    by_cases hk : k < H.devices.length
    · rw [pickTo_snoc hk, List.length_append]
      have h1 := pickTo_length p H k
      have h2 := List.length_filter_le p (keysL H (H.devices.getD k default).id)
      have h3 := keysL_48 (H := H) (id := (H.devices.getD k default).id)
      omega
    · have : pickTo p H (k + 1) = pickTo p H k := by
        unfold pickTo
        rw [List.take_of_length_le (by omega), List.take_of_length_le (by omega)]
      rw [this]
      have := pickTo_length p H k
      omega
theorem fil_take [Globals] (p : Key → Bool) {l : List Key} {q : Nat} (h : q < l.length) : (l.take (q + 1)).filter p = (l.take q).filter p ++ (if p (l.getD q default) = true then [l.getD q default] else []) := by
  rw [take_succ_getD h, List.filter_append]
  congr 1
  by_cases e : p (l.getD q default) = true
  · rw [if_pos e, List.filter_cons_of_pos e]; rfl
  · rw [if_neg e, List.filter_cons_of_neg e]; rfl
theorem fil_len [Globals] (p : Key → Bool) (l : List Key) (q : Nat) : ((l.take q).filter p).length ≤ l.length := Nat.le_trans (List.length_filter_le _ _) (by rw [List.length_take]; omega)
theorem homE_few [Globals] {H : Hom} (h : homE H = 0) : H.devices.length ≤ 20 := by
  unfold homE at h
  split at h
  · rename_i h1; exact absurd h h1
  split at h
  · cases h
  · omega
theorem may_small {H : Hom} {l : List Mem} {s : ByteArray} (hg : goodM l) : smallL (mbrOf l s).spans ∧ smallL (mbrOf l s).rooms := by
  unfold mbrOf; split
  · exact hg.2 _ ‹_›
  · exact ⟨show (0 : Nat) ≤ 1048576 by decide, show (0 : Nat) ≤ 1048576 by decide⟩
theorem small_keys [Globals] (H : Hom) (d : Int) : smallL (keysL H d) := by
  have := keysL_48 (H := H) (id := d)
  show _ ≤ 1048576; omega
set_option maxHeartbeats 1000000 in
theorem ac_member_Rights (H : Hom) (l : List Mem) (s : ByteArray) (m : Int) (hH : smallH H) (hg : goodM l) :
    AC Tryz.prog 17 [.pv (.agg (cHom H)), .pv (roL 5 cMem l), .pv (vstr s), .pv (vint m)] [] (.pv (roL 3 cKey (rightsL H l s m))) [] := by
  have ho := may_small (s := s) (H := H) hg
  refine AC.of_awp (T := T) T_ok hm Tryz.call17 Tryz.func17 rfl rfl rfl ?_
  conv => whnf
  repeat (any_goals (first
    | (refine ⟨fun (h : (_ : Bool) = true) => ?_, fun (h : (_ : Bool) = false) => ?_⟩ <;> (try simp only [decide_eq_true_eq, decide_eq_false_iff_not, Bool.not_eq_true', Bool.not_eq_false', Int.toNat_natCast, beq_iff_eq, decide_eq_decide, beq_eq_false_iff_ne, ne_eq, reduceCtorEq] at h) <;> (conv => whnf))
    | (refine .inl ⟨_, ac_member_Find l s hg, ?_⟩; conv => whnf)
    | (refine .inl ⟨_, ac_member_Check H l hH hg, ?_⟩; conv => whnf)
    | (refine And.intro (by (try simp only [Int.toNat_natCast]); omega) ?_; conv => whnf)
    | (refine And.intro (show (_ : Bool) = true from by kernel_rfl) ?_; conv => whnf)
    | (refine .inl ⟨wrap64 (by omega), ?_⟩; conv => whnf)))
  · have e : rightsL H l s m = [] := by rw [rightsL, if_neg (fun x => by simp [x.1] at h)]
    rw [e]; exact PSub.nil_ro _ _
  · have e : rightsL H l s m = [] := by rw [rightsL, if_neg (fun x => h x.2)]
    rw [e]; exact PSub.nil_ro _ _
  rename_i h1
  have h1 : mbrAt l s < l.length := by simpa using h1
  have h0 : memsE H l = 0 := by simpa using h
  have e : rightsL H l s m = sortK (pickTo (rightB H (mbrOf l s) m) H H.devices.length) := by
    rw [rightsL, if_pos ⟨h1, h0⟩]
    unfold rightA pickTo
    rw [List.take_length]
  rw [e]
  have hz := (mems_ok.1 h0).hom
  have hfew := homE_few hz
  have hnd : (pickTo (rightB H (mbrOf l s) m) H H.devices.length).Nodup := by
    have := rights_nodup (x := mbrOf l s) (m := m) hz
    unfold rightA at this
    unfold pickTo
    rwa [List.take_length]
  clear h e h1 h0
  generalize hx : mbrOf l s = x at *
  refine loop_k (ι := Nat) [3, 4, 9, 33, 34] [4, 9] (fun k => k ≤ H.devices.length ∧ True) (fun k => H.devices.length - k) 0 (fun k => [(11, .own 500), (35, .pv (vint k))]) (fun k => [(500, rowL 3 cKey (pickTo (rightB H x m) H k))]) [] ⟨Nat.zero_le _, trivial⟩ ?_ (fun k hk => ?_)
  · (repeat' (first | exact PSub.rfl | exact rfl | exact PSubs.rfl | exact trivial | exact PSub.lit_sb rfl | refine And.intro ?_ ?_)); all_goals ((intro i hi; exact absurd hi (by simp [pickTo])))
  obtain ⟨hkn, hinv⟩ := hk
  conv => whnf
  have hle := pickTo_length (rightB H x m) H k
  refine ⟨fun h => ?_, fun h => ?_⟩ <;> (try simp only [decide_eq_true_eq, decide_eq_false_iff_not, Bool.not_eq_true', Bool.not_eq_false', Int.toNat_natCast, beq_iff_eq, decide_eq_decide, beq_eq_false_iff_ne, ne_eq, reduceCtorEq] at h) <;> (conv => whnf)
  · have hk : k < H.devices.length := by omega
    have h48 := keysL_48 (H := H) (id := (H.devices.getD k default).id)
    have hsn := pickTo_snoc (p := rightB H x m) hk
    repeat (any_goals (first
      | (refine ⟨fun (h : (_ : Bool) = true) => ?_, fun (h : (_ : Bool) = false) => ?_⟩ <;> (try simp only [decide_eq_true_eq, decide_eq_false_iff_not, Bool.not_eq_true', Bool.not_eq_false', Int.toNat_natCast, beq_iff_eq, decide_eq_decide, beq_eq_false_iff_ne, ne_eq, reduceCtorEq] at h) <;> (conv => whnf))
      | (refine .inl ⟨_, ac_device_Keys H (H.devices.getD k default).id hH, ?_⟩; conv => whnf)
      | (refine And.intro (by (try simp only [Int.toNat_natCast]); omega) ?_; conv => whnf)
      | (refine And.intro (show (_ : Bool) = true from by kernel_rfl) ?_; conv => whnf)
      | (refine .inl ⟨wrap64 (by omega), ?_⟩; conv => whnf)))
    generalize keysL H (H.devices.getD k default).id = ks at *
    generalize pickTo (rightB H x m) H k = pre at *
    refine loop_k (ι := Nat) [3, 4, 9, 33, 34, 35, 42, 43] [4, 9] (fun q => q ≤ ks.length) (fun q => ks.length - q) 0 (fun q => [(11, .own 501), (44, .pv (vint q))]) (fun q => [(501, rowL 3 cKey (pre ++ (ks.take q).filter (rightB H x m)))]) [(501, 500)] (Nat.zero_le _) ?_ (fun q hq => ?_)
    · rw [show pre ++ (ks.take 0).filter (rightB H x m) = pre from by simp]
      (repeat' (first | exact PSub.rfl | exact rfl | exact PSubs.rfl | exact trivial | exact PSub.lit_sb rfl | refine And.intro ?_ ?_))
      all_goals (intro i hi; exact PSubs.rfl)
    have hfl := fil_len (rightB H x m) ks q
    have hal : (pre ++ (ks.take q).filter (rightB H x m)).length = pre.length + ((ks.take q).filter (rightB H x m)).length := List.length_append
    conv => whnf
    refine ⟨fun h => ?_, fun h => ?_⟩ <;> (try simp only [decide_eq_true_eq, decide_eq_false_iff_not, Bool.not_eq_true', Bool.not_eq_false', Int.toNat_natCast, beq_iff_eq, decide_eq_decide, beq_eq_false_iff_ne, ne_eq, reduceCtorEq] at h) <;> (conv => whnf)
    · have hq2 : q < ks.length := by omega
      have htk := fil_take (rightB H x m) hq2
      have hrb : rightB H x m (ks.getD q default) = (((findA H (ks.getD q default)).getD noAttr).writable && decide (mayE H x m (wrQ (ks.getD q default)) = 0)) := rfl
      repeat (any_goals (first
        | (refine ⟨fun (h : (_ : Bool) = true) => ?_, fun (h : (_ : Bool) = false) => ?_⟩ <;> (try simp only [decide_eq_true_eq, decide_eq_false_iff_not, Bool.not_eq_true', Bool.not_eq_false', Int.toNat_natCast, beq_iff_eq, decide_eq_decide, beq_eq_false_iff_ne, ne_eq, reduceCtorEq] at h) <;> (conv => whnf))
        | (refine .inl ⟨_, ac_device_Find H (ks.getD q default) hH, ?_⟩; conv => whnf)
        | (refine .inl ⟨_, ac_member_may H x m (wrQ (ks.getD q default)) hH (small_keys H _) ho.1 ho.2, ?_⟩; conv => whnf)
        | (refine And.intro (by (try simp only [Int.toNat_natCast]); omega) ?_; conv => whnf)
        | (refine And.intro (show (_ : Bool) = true from by kernel_rfl) ?_; conv => whnf)
        | (refine .inl ⟨wrap64 (by omega), ?_⟩; conv => whnf)))
      · rw [hrb, ‹((findA H (ks.getD q default)).getD noAttr).writable = true›, decide_eq_true h, Bool.and_self, if_pos rfl] at htk
        refine ⟨q + 1, [(501, 68)], by omega, by omega, ?_⟩
        rw [htk, ← List.append_assoc]
        (repeat' (first | exact PSub.rfl | exact rfl | exact PSubs.rfl | exact trivial | exact PSub.lit_sb rfl | refine And.intro ?_ ?_))
        · simp [-List.getD_eq_getElem?_getD]; omega
        · refine rows_snocF (fun i hi => by simp only [if_pos hi]; exact PSubs.rfl) (by simp only [if_neg (Nat.lt_irrefl _), Nat.sub_self]; exact PSubs.rfl)
      · rw [hrb, decide_eq_false h, Bool.and_false, if_neg (by decide), List.append_nil] at htk
        refine ⟨q + 1, [], by omega, by omega, ?_⟩
        rw [htk]
        (repeat' (first | exact PSub.rfl | exact rfl | exact PSubs.rfl | exact trivial | exact PSub.lit_sb rfl | refine And.intro ?_ ?_))
        all_goals (intro i hi; exact PSubs.rfl)
      · rw [hrb, h, Bool.false_and, if_neg (by decide), List.append_nil] at htk
        refine ⟨q + 1, [], by omega, by omega, ?_⟩
        rw [htk]
        (repeat' (first | exact PSub.rfl | exact rfl | exact PSubs.rfl | exact trivial | exact PSub.lit_sb rfl | refine And.intro ?_ ?_))
        all_goals (intro i hi; exact PSubs.rfl)
    · have hq2 : q = ks.length := by omega
      subst hq2
      rw [List.take_length]
      repeat (any_goals (first
        | (refine ⟨fun (h : (_ : Bool) = true) => ?_, fun (h : (_ : Bool) = false) => ?_⟩ <;> (try simp only [decide_eq_true_eq, decide_eq_false_iff_not, Bool.not_eq_true', Bool.not_eq_false', Int.toNat_natCast, beq_iff_eq, decide_eq_decide, beq_eq_false_iff_ne, ne_eq, reduceCtorEq] at h) <;> (conv => whnf))
        | (refine And.intro (by (try simp only [Int.toNat_natCast]); omega) ?_; conv => whnf)
        | (refine And.intro (show (_ : Bool) = true from by kernel_rfl) ?_; conv => whnf)
        | (refine .inl ⟨wrap64 (by omega), ?_⟩; conv => whnf)))
      refine ⟨k + 1, [(500, 501)], ⟨by omega, trivial⟩, by omega, ?_⟩
      rw [hsn]
      (repeat' (first | exact PSub.rfl | exact rfl | exact PSubs.rfl | exact trivial | exact PSub.lit_sb rfl | refine And.intro ?_ ?_))
      all_goals (intro i hi; exact PSubs.rfl)
  · have hk : k = H.devices.length := by omega
    subst hk
    refine .inr (.inr (.inl ⟨_, _, ac_slices_SortFunc_Key 49 ac_member_Rights_1 _ (by omega), ?_⟩))
    conv => whnf
    rw [sortedK_asc hnd]
    exact .rfl
end Go.Abs

namespace Go.Abs
open Go.Proofs
set_option maxRecDepth 10000
theorem homeN_take {l : List Mem} {k : Nat} (hk : k < l.length) : homeN (l.take (k + 1)) = homeN (l.take k) ++ (if (l.getD k default).home = true then [(l.getD k default).name] else []) := by
  unfold homeN
  rw [take_succ_getD hk, List.filter_append, List.map_append]
  congr 1
  by_cases e : (l.getD k default).home = true
  · rw [if_pos e, List.filter_cons_of_pos e]; rfl
  · rw [if_neg e, List.filter_cons_of_neg e]; rfl
theorem homeN_length (l : List Mem) (k : Nat) : (homeN (l.take k)).length ≤ l.length := by
  unfold homeN
  rw [List.length_map]
  exact Nat.le_trans (List.length_filter_le _ _) (by rw [List.length_take]; omega)
end Go.Abs
