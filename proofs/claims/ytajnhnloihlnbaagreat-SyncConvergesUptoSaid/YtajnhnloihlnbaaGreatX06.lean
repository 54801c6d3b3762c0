/- YtajnhnloihlnbaaGreatX06: walks and contracts. -/
import Derived.Test.YtajnhnloihlnbaaGreatX05

set_option linter.unusedVariables false
set_option linter.unusedSimpArgs false
set_option linter.unusedSectionVars false

namespace Go.Abs
section
variable {α : Type} [Inhabited α] {lt : α → α → Bool}
theorem srtO_le (hw : SWO lt) {l : List α} {i j : Nat} (h : srtO lt l i j) {p q : Nat} (hp : i ≤ p) (hpq : p ≤ q) (hq : q < j) : lt (l.getD q default) (l.getD p default) = false := by
  rcases Nat.lt_or_ge p q with e | e
  · exact h p q hp e hq
  · rw [show q = p from by omega]; exact hw.irrefl _
def symLo (a m b : Nat) : Nat := if (a + b) / 2 < m then (a + b) / 2 + m - b else a
def symHi (a m b : Nat) : Nat := if (a + b) / 2 < m then (a + b) / 2 else m
theorem sym_bounds {a m b : Nat} (ham : a < m) (hmb : m < b) : a ≤ symLo a m b ∧ symLo a m b ≤ symHi a m b ∧ symHi a m b ≤ m ∧ (∀ c, symLo a m b ≤ c → c < symHi a m b → m ≤ (a + b) / 2 + m - 1 - c ∧ (a + b) / 2 + m - 1 - c < b ∧ c < (a + b) / 2 + m) ∧ ∀ s, symLo a m b ≤ s → s ≤ symHi a m b → m ≤ (a + b) / 2 + m - s ∧ (a + b) / 2 + m - s ≤ b := by
  unfold symLo symHi
  split
  · exact ⟨by omega, by omega, by omega, fun c h1 h2 => by omega, fun s h1 h2 => by omega⟩
  · exact ⟨by omega, by omega, by omega, fun c h1 h2 => by omega, fun s h1 h2 => by omega⟩
def symQ (lt : α → α → Bool) (l : List α) (a m b c : Nat) : Bool := lt (l.getD ((a + b) / 2 + m - 1 - c) default) (l.getD c default)
theorem symQ_down (hw : SWO lt) {l : List α} {a m b : Nat} (ham : a < m) (hmb : m < b) (hL : srtO lt l a m) (hR : srtO lt l m b) {c c' : Nat} (h : symQ lt l a m b c = false) (h1 : symLo a m b ≤ c') (h2 : c' ≤ c) (h3 : c < symHi a m b) : symQ lt l a m b c' = false := by
  obtain ⟨b1, b2, b3, b4, _⟩ := sym_bounds ham hmb
  have b5 := b4 c (by omega) h3
  have b6 := b4 c' h1 (by omega)
  unfold symQ at h ⊢
  have e1 := srtO_le hw hR (p := (a + b) / 2 + m - 1 - c) (q := (a + b) / 2 + m - 1 - c') (by omega) (by omega) (by omega)
  have e2 := srtO_le hw hL (p := c') (q := c) (by omega) h2 (by omega)
  exact hw.trans _ _ _ (hw.trans _ _ _ e1 h) e2
theorem symQ_up (hw : SWO lt) {l : List α} {a m b : Nat} (ham : a < m) (hmb : m < b) (hL : srtO lt l a m) (hR : srtO lt l m b) {c c' : Nat} (h : symQ lt l a m b c = true) (h1 : symLo a m b ≤ c) (h2 : c ≤ c') (h3 : c' < symHi a m b) : symQ lt l a m b c' = true := by
  cases e : symQ lt l a m b c' with
  | true => rfl
  | false => rw [symQ_down hw ham hmb hL hR e h1 h2 h3] at h; cases h
theorem sym_found (hw : SWO lt) {l : List α} {a m b s : Nat} (ham : a < m) (hmb : m < b) (hb : b ≤ l.length) (hL : srtO lt l a m) (hR : srtO lt l m b) (hlo : symLo a m b ≤ s) (hhi : s ≤ symHi a m b)
    (h1 : ∀ c, symLo a m b ≤ c → c < s → symQ lt l a m b c = false) (h2 : ∀ c, s ≤ c → c < symHi a m b → symQ lt l a m b c = true) :
    srtSeg lt (srtSeg lt (rot l s m ((a + b) / 2 + m - s)) a ((a + b) / 2)) ((a + b) / 2) b = srtSeg lt l a b := by
  obtain ⟨b1, b2, b3, b4, b5⟩ := sym_bounds ham hmb
  have b6 := b5 s hlo hhi
  have b7 : symLo a m b = (if (a + b) / 2 < m then (a + b) / 2 + m - b else a) := rfl
  have b8 : symHi a m b = (if (a + b) / 2 < m then (a + b) / 2 else m) := rfl
  have hm1 : a ≤ (a + b) / 2 ∧ (a + b) / 2 ≤ b := by omega
  generalize hmid : (a + b) / 2 = mid at *
  refine sym_split hw (by omega) (by omega) b6.1 b6.2 hb (by omega) hL hR (fun i j i1 i2 j1 j2 => ?_) (fun i j i1 i2 j1 j2 => ?_)
  · by_cases e : symLo a m b < s
    · have q := h1 (s - 1) (by omega) (by omega)
      unfold symQ at q
      rw [hmid, show mid + m - 1 - (s - 1) = mid + m - s from by omega] at q
      have e1 := srtO_le hw hR (p := mid + m - s) (q := j) b6.1 j1 j2
      have e2 := srtO_le hw hL (p := i) (q := s - 1) i1 (by omega) (by omega)
      exact hw.trans _ _ _ (hw.trans _ _ _ e1 q) e2
    · exfalso
      split at b7 <;> omega
  · by_cases e : s < symHi a m b
    · have q := h2 s (Nat.le_refl _) e
      unfold symQ at q
      rw [hmid] at q
      have b9 := b4 s hlo e
      have e1 := srtO_le hw hR (p := j) (q := mid + m - 1 - s) j1 (by omega) (by omega)
      have e2 := srtO_le hw hL (p := s) (q := i) (by omega) i1 i2
      exact hw.lt_le (hw.le_lt e1 q) e2
    · exfalso
      split at b8 <;> omega
theorem sym_left (hw : SWO lt) {l : List α} {a b i : Nat} (hi : a + 1 ≤ i) (hib : i ≤ b) (hb : b ≤ l.length) (hR : srtO lt l (a + 1) b) (h1 : ∀ q, a + 1 ≤ q → q < i → lt (l.getD q default) (l.getD a default) = true) (h2 : ∀ q, i ≤ q → q < b → lt (l.getD q default) (l.getD a default) = false) :
    srtSeg lt l a b = rot l a (a + 1) i := by
  have hrl := rot_length l a (a + 1) i
  have hL : srtO lt l a (a + 1) := fun p q p1 p2 p3 => by omega
  rw [← sym_split hw (s := a) (m := a + 1) (e := i) (mid := a + (i - (a + 1))) (Nat.le_refl _) (by omega) hi hib hb rfl hL hR (fun p q p1 p2 => by omega) (fun p q p1 p2 q1 q2 => by rw [show p = a from by omega]; exact h1 q q1 q2)]
  have s1 : srtSeg lt (rot l a (a + 1) i) a (a + (i - (a + 1))) = rot l a (a + 1) i := srtSeg_still hw (by omega) (by omega) fun p q p1 p2 p3 => by
    rw [rot_getD (by omega), rot_getD (by omega), if_pos (by omega), if_pos (by omega)]
    exact hR _ _ (by omega) (by omega) (by omega)
  rw [s1]
  refine srtSeg_still hw (by omega) (by omega) fun p q p1 p2 p3 => ?_
  rw [rot_getD (q := q) (by omega), if_neg (by omega), if_neg (by omega), rot_getD (q := p) (by omega), if_neg (by omega)]
  by_cases e : p < i
  · rw [if_pos (by omega), show a + (p - (a + (i - (a + 1)))) = a from by omega]
    exact h2 q (by omega) p3
  · rw [if_neg (by omega)]
    exact hR p q (by omega) p2 p3
theorem sym_right (hw : SWO lt) {l : List α} {a m i : Nat} (hi : a ≤ i) (him : i ≤ m) (hb : m + 1 ≤ l.length) (hL : srtO lt l a m) (h1 : ∀ q, a ≤ q → q < i → lt (l.getD m default) (l.getD q default) = false) (h2 : ∀ q, i ≤ q → q < m → lt (l.getD m default) (l.getD q default) = true) :
    srtSeg lt l a (m + 1) = rot l i m (m + 1) := by
  have hrl := rot_length l i m (m + 1)
  have hR : srtO lt l m (m + 1) := fun p q p1 p2 p3 => by omega
  rw [← sym_split hw (s := i) (m := m) (e := m + 1) (mid := i + 1) hi him (by omega) (Nat.le_refl _) hb (by omega) hL hR (fun p q p1 p2 q1 q2 => by omega) (fun p q p1 p2 q1 q2 => by rw [show q = m from by omega]; exact h2 p p1 p2)]
  have s1 : srtSeg lt (rot l i m (m + 1)) a (i + 1) = rot l i m (m + 1) := srtSeg_still hw (by omega) (by omega) fun p q p1 p2 p3 => by
    rw [rot_getD (q := p) (by omega), if_neg (by omega), if_neg (by omega), rot_getD (q := q) (by omega)]
    by_cases e : q = i
    · rw [if_pos (by omega), show m + (q - i) = m from by omega]
      exact h1 p p1 (by omega)
    · rw [if_neg (by omega), if_neg (by omega)]
      exact hL p q p1 p2 (by omega)
  rw [s1]
  refine srtSeg_still hw (by omega) (by omega) fun p q p1 p2 p3 => ?_
  rw [rot_getD (q := p) (by omega), if_neg (by omega), if_pos (by omega), rot_getD (q := q) (by omega), if_neg (by omega), if_pos (by omega)]
  exact hL _ _ (by omega) (by omega) (by omega)
end
end Go.Abs

namespace Go.Abs
section
variable {α : Type} [Inhabited α] {lt : α → α → Bool}
theorem srtSeg_srt (hw : SWO lt) {l : List α} {a b : Nat} (hab : a ≤ b) (hb : b ≤ l.length) : srtO lt (srtSeg lt l a b) a b := by
  have hl := srtSeg_length (lt := lt) hab hb
  intro p q p1 p2 p3
  rw [srtSeg_getD hab hb, srtSeg_getD hab hb, if_neg (by omega), if_pos p3, if_neg (by omega), if_pos (by omega)]
  have h := (isortR_stb hw (seg l a b)).1
  unfold SrtO at h
  rw [List.pairwise_iff_getElem] at h
  have n : (isortR lt (seg l a b)).length = b - a := by rw [isortR_length, seg_length hb]
  have := h (p - a) (q - a) (by omega) (by omega) (by omega)
  simpa [List.getD, n, show p - a < b - a by omega, show q - a < b - a by omega] using this
theorem srtO_sub {l : List α} {a b i j : Nat} (h : srtO lt l a b) (hi : a ≤ i) (hj : j ≤ b) : srtO lt l i j := fun p q p1 p2 p3 => h p q (by omega) p2 (by omega)
theorem srtSeg_absorb (hw : SWO lt) {l : List α} {a b i j : Nat} (hai : a ≤ i) (hij : i ≤ j) (hjb : j ≤ b) (hb : b ≤ l.length) : srtSeg lt (srtSeg lt l i j) a b = srtSeg lt l a b := by
  have hl := srtSeg_length (lt := lt) hij (show j ≤ l.length by omega)
  have e : seg (srtSeg lt l i j) a b = seg l a i ++ (isortR lt (seg l i j) ++ seg l j b) := by
    rw [← seg_append hai (show i ≤ b by omega) (by omega), ← seg_append hij hjb (by omega), srtSeg_seg hij (by omega)]
    congr 1
    · refine seg_ext (by omega) (by omega) rfl fun q hq => ?_
      rw [srtSeg_getD hij (by omega), if_pos (by omega)]
    · congr 1
      refine seg_ext (by omega) hb rfl fun q hq => ?_
      rw [srtSeg_getD hij (by omega), if_neg (by omega), if_neg (by omega)]
  have hs : isortR lt (seg (srtSeg lt l i j) a b) = isortR lt (seg l a b) := by
    refine Stb.eq hw ⟨(isortR_stb hw _).1, fun z => ?_⟩
    rw [(isortR_stb hw _).2 z, e, ← seg_append hai (show i ≤ b by omega) hb, ← seg_append hij hjb hb]
    simp only [List.filter_append]
    rw [(isortR_stb hw (seg l i j)).2 z]
  refine list_ext_getD (by rw [srtSeg_length (by omega) (by omega), srtSeg_length (by omega) hb, hl]) fun q hq => ?_
  rw [srtSeg_getD (by omega) (by omega), srtSeg_getD (by omega) hb, hs]
  by_cases c1 : q < a
  · rw [if_pos c1, if_pos c1, srtSeg_getD hij (by omega), if_pos (by omega)]
  · rw [if_neg c1, if_neg c1]
    by_cases c2 : q < b
    · rw [if_pos c2, if_pos c2]
    · rw [if_neg c2, if_neg c2, srtSeg_getD hij (by omega), if_neg (by omega), if_neg (by omega)]
theorem srtSeg_out {l : List α} {i j a b : Nat} (hij : i ≤ j) (hj : j ≤ l.length) (h : b ≤ i ∨ j ≤ a) (hs : srtO lt l a b) : srtO lt (srtSeg lt l i j) a b := fun p q p1 p2 p3 => by
  have e : ∀ x, a ≤ x → x < b → (srtSeg lt l i j).getD x default = l.getD x default := fun x h1 h2 => by
    rw [srtSeg_getD hij hj]
    by_cases c1 : x < i
    · rw [if_pos c1]
    · rw [if_neg c1, if_neg (by omega)]
  rw [e p p1 (by omega), e q (by omega) p3]
  exact hs p q p1 p2 p3
theorem rot_down {l : List α} {i j : Nat} (hj : 0 < j) (hji : j ≤ i) (hi : i < l.length) : swp (rot l j i (i + 1)) j (j - 1) = rot l (j - 1) i (i + 1) := by
  have hl := rot_length l j i (i + 1)
  refine list_ext_getD (by rw [swp_length, hl, rot_length]) fun q hq => ?_
  rw [swp_length, hl] at hq
  rw [swp_getD (by omega) (by omega), rot_getD (q := j) (by omega), rot_getD (q := j - 1) (by omega), rot_getD (q := q) (by omega), rot_getD (q := q) (by omega)]
  by_cases e1 : q = j - 1
  · subst e1
    rw [if_pos rfl, if_pos (by omega), if_pos (by omega)]
    congr 1; omega
  · rw [if_neg e1]
    by_cases e2 : q = j
    · subst e2
      rw [if_pos rfl, if_neg (by omega), if_neg (by omega), if_neg (by omega), if_pos (by omega)]
      congr 1; omega
    · rw [if_neg e2, if_neg (by omega)]
      by_cases c : j + (i + 1 - i) ≤ q ∧ q < i + 1
      · rw [if_pos c, if_neg (by omega), if_pos (by omega)]
        congr 1; omega
      · rw [if_neg c, if_neg (by omega), if_neg (by omega)]
theorem rot_none {l : List α} {i : Nat} (hi : i < l.length) : rot l i i (i + 1) = l := by
  refine list_ext_getD (rot_length _ _ _ _) fun q hq => ?_
  rw [rot_length] at hq
  rw [rot_getD hq]
  by_cases c : i ≤ q ∧ q < i + (i + 1 - i)
  · rw [if_pos c]; congr 1; omega
  · rw [if_neg c, if_neg (by omega)]
theorem ins_done (hw : SWO lt) {l : List α} {a i j : Nat} (haj : a ≤ j) (hji : j ≤ i) (hi : i < l.length) (h1 : ∀ q, j ≤ q → q < i → lt (l.getD i default) ((srtSeg lt l a i).getD q default) = true)
    (h2 : a < j → lt (l.getD i default) ((srtSeg lt l a i).getD (j - 1) default) = false) : rot (srtSeg lt l a i) j i (i + 1) = srtSeg lt l a (i + 1) := by
  have hl := srtSeg_length (lt := lt) (l := l) (a := a) (b := i) (by omega) (by omega)
  have hs := srtSeg_srt hw (l := l) (a := a) (b := i) (by omega) (by omega)
  have hx : (srtSeg lt l a i).getD i default = l.getD i default := by rw [srtSeg_getD (by omega) (by omega), if_neg (by omega), if_neg (by omega)]
  rw [← srtSeg_absorb hw (Nat.le_refl a) (show a ≤ i by omega) (Nat.le_succ i) (show i + 1 ≤ l.length by omega)]
  refine (sym_right hw haj hji (by omega) hs (fun q q1 q2 => ?_) (fun q q1 q2 => by rw [hx]; exact h1 q q1 q2)).symm
  rw [hx]
  exact hw.trans _ _ _ (h2 (by omega)) (srtO_le hw hs (p := q) (q := j - 1) q1 (by omega) (by omega))
theorem srt_whole (hw : SWO lt) {l cur : List α} (hl : cur.length = l.length) (h1 : srtSeg lt cur 0 cur.length = srtSeg lt l 0 l.length) (h2 : srtO lt cur 0 cur.length) : cur = isortR lt l := by
  have e : ∀ k : List α, srtSeg lt k 0 k.length = isortR lt k := fun k => by
    unfold srtSeg seg; simp
  rw [← e l, ← h1, srtSeg_still hw (Nat.zero_le _) (Nat.le_refl _) h2]
end
end Go.Abs

namespace Go.Abs
section
variable {α : Type} [Inhabited α] {lt : α → α → Bool}
inductive DoneB (lt : α → α → Bool) (l : List α) (B : Nat) : Nat → Prop where
  | zero : DoneB lt l B 0
  | step (a : Nat) (h : DoneB lt l B a) (hs : srtO lt l a (a + B)) : DoneB lt l B (a + B)
inductive RestB (lt : α → α → Bool) (l : List α) (B n : Nat) : Nat → Prop where
  | last (a : Nat) (h : n ≤ a + B) (hs : srtO lt l a n) : RestB lt l B n a
  | step (a : Nat) (hs : srtO lt l a (a + B)) (h : RestB lt l B n (a + B)) : RestB lt l B n a
theorem DoneB.out {l : List α} {B a i j : Nat} (h : DoneB lt l B a) (hij : i ≤ j) (hj : j ≤ l.length) (hi : a ≤ i) : DoneB lt (srtSeg lt l i j) B a := by
  induction h with
  | zero => exact .zero
  | step a h hs ih => exact .step a (ih (by omega)) (srtSeg_out hij hj (.inl hi) hs)
theorem RestB.out {l : List α} {B n a i j : Nat} (h : RestB lt l B n a) (hij : i ≤ j) (hj : j ≤ l.length) (ha : j ≤ a) : RestB lt (srtSeg lt l i j) B n a := by
  induction h with
  | last a h hs => exact .last a h (srtSeg_out hij hj (.inr ha) hs)
  | step a hs h ih => exact .step a (srtSeg_out hij hj (.inr ha) hs) (ih (by omega))
theorem DoneB.rest {l : List α} {B n a : Nat} (h : DoneB lt l B a) (hr : RestB lt l B n a) : RestB lt l B n 0 := by
  induction h with
  | zero => exact hr
  | step a h hs ih => exact ih (.step a hs hr)
theorem RestB.whole {l : List α} {B n : Nat} (h : RestB lt l B n 0) (hB : n ≤ B) : srtO lt l 0 n := by
  cases h with
  | last _ _ hs => exact hs
  | step _ hs _ => exact srtO_sub hs (Nat.le_refl _) (by omega)
theorem blk_merge (hw : SWO lt) {l : List α} {B n a : Nat} (hB : 0 < B) (hn : n ≤ l.length) (hab : a + 2 * B ≤ n) (hd : DoneB lt l (2 * B) a) (hr : RestB lt l B n a) :
    srtO lt l a (a + B) ∧ srtO lt l (a + B) (a + 2 * B) ∧ DoneB lt (srtSeg lt l a (a + 2 * B)) (2 * B) (a + 2 * B) ∧ RestB lt (srtSeg lt l a (a + 2 * B)) B n (a + 2 * B) := by
  have e2 : a + B + B = a + 2 * B := by omega
  have key : srtO lt l a (a + B) ∧ srtO lt l (a + B) (a + 2 * B) ∧ RestB lt l B n (a + 2 * B) := by
    cases hr with
    | last _ h _ => omega
    | step _ hs h =>
      cases h with
      | last _ h hs2 =>
        have : n = a + 2 * B := by omega
        subst this
        exact ⟨hs, hs2, .last _ (by omega) fun p q p1 p2 p3 => by omega⟩
      | step _ hs2 h2 => rw [e2] at hs2 h2; exact ⟨hs, hs2, h2⟩
  obtain ⟨k1, k2, k3⟩ := key
  exact ⟨k1, k2, .step a (hd.out (by omega) (by omega) (Nat.le_refl _)) (srtSeg_srt hw (by omega) (by omega)), k3.out (by omega) (by omega) (Nat.le_refl _)⟩
theorem blk_end (hw : SWO lt) {l : List α} {B n a : Nat} (hn : n ≤ l.length) (hab : n < a + 2 * B) (hm : a + B < n) (hd : DoneB lt l (2 * B) a) (hr : RestB lt l B n a) :
    srtO lt l a (a + B) ∧ srtO lt l (a + B) n ∧ RestB lt (srtSeg lt l a n) (2 * B) n 0 := by
  have key : srtO lt l a (a + B) ∧ srtO lt l (a + B) n := by
    cases hr with
    | last _ h _ => omega
    | step _ hs h =>
      cases h with
      | last _ h hs2 => exact ⟨hs, hs2⟩
      | step _ hs2 h2 => exact ⟨hs, srtO_sub hs2 (Nat.le_refl _) (by omega)⟩
  exact ⟨key.1, key.2, (hd.out (by omega) hn (Nat.le_refl _)).rest (.last a (by omega) (srtSeg_srt hw (by omega) hn))⟩
theorem blk_end1 {l : List α} {B n a : Nat} (hm : n ≤ a + B) (hd : DoneB lt l (2 * B) a) (hr : RestB lt l B n a) : RestB lt l (2 * B) n 0 := by
  refine hd.rest (.last a (by omega) ?_)
  cases hr with
  | last _ _ hs => exact hs
  | step _ hs _ => exact srtO_sub hs (Nat.le_refl _) hm
theorem blk_first (hw : SWO lt) {l : List α} {B a : Nat} (hb : a + B ≤ l.length) (hd : DoneB lt l B a) : DoneB lt (srtSeg lt l a (a + B)) B (a + B) :=
  .step a (hd.out (by omega) hb (Nat.le_refl _)) (srtSeg_srt hw (by omega) hb)
theorem blk_first_end (hw : SWO lt) {l : List α} {B n a : Nat} (han : a ≤ n) (hn : n ≤ l.length) (hb : n < a + B) (hd : DoneB lt l B a) : RestB lt (srtSeg lt l a n) B n 0 :=
  (hd.out han hn (Nat.le_refl _)).rest (.last a (by omega) (srtSeg_srt hw han hn))
end
end Go.Abs

namespace Go.Abs
open Go.Proofs
set_option maxRecDepth 10000
theorem swp_row {l : List Item} {i j : Nat} (hi : i < l.length) (hj : j < l.length) (q : Nat) : PSubs (updAt (updAt (fun q => cItem (l.getD q default)) i 0 (cItem (l.getD j default))) j 0 (cItem (l.getD i default)) q) (cItem ((swp l i j).getD q default)) := by
  rw [swp_getD hi hj]
  by_cases e : q = j
  · subst e
    rw [if_pos rfl, updAt_same]
    by_cases e2 : q = i
    · subst e2; rw [updAt_same]; exact PSubs.rfl
    · rw [updAt_ne e2]; exact PSubs.rfl
  · rw [if_neg e, updAt_ne e]
    by_cases e2 : q = i
    · subst e2; rw [if_pos rfl, updAt_same]; exact PSubs.rfl
    · rw [if_neg e2, updAt_ne e2]; exact PSubs.rfl
set_option maxHeartbeats 1000000 in
theorem ac_slices_swapRangeCmpFunc_Item (l : List Item) (a b n : Nat) (isB : Bool) (D : List PV → Prop) (gb : List PV → Bool) (gi : List PV → Int) (hl : l.length ≤ 1048576) (hab : a + n ≤ b) (hb : b + n ≤ l.length) :
    AC Tryz.prog 191 [.own 900000, .pv (vint a), .pv (vint b), .pv (vint n), .clo D isB gb gi] [(900000, rowL 7 cItem l)] (.pv (.tup [])) [(900000, rowL 7 cItem (swpTo l a b n))] := by
  refine AC.of_awp_gen (T := T) T_ok hm Tryz.call191 Tryz.func191 rfl rfl rfl rfl rfl rfl ?_
  conv => whnf
  refine loop_k (ι := Nat) [0, 1, 2, 3] [] (fun k => k ≤ n) (fun k => n - k) 0 (fun k => [(10, .pv (vint k))]) (fun k => [(900000, rowL 7 cItem (swpTo l a b k))]) [] (Nat.zero_le _) ?_ (fun k hk => ?_)
  · rw [swpTo_zero]
    (repeat' (first | exact PSub.rfl | exact rfl | exact PSubs.rfl | exact trivial | exact PSub.lit_sb rfl | refine And.intro ?_ ?_))
    intro i hi; exact PSubs.rfl
  have hsl := swpTo_length l a b k
  conv => whnf
  repeat (any_goals (first
    | (refine ⟨fun (h : (_ : Bool) = true) => ?_, fun (h : (_ : Bool) = false) => ?_⟩ <;> (try simp only [decide_eq_true_eq, decide_eq_false_iff_not, Bool.not_eq_true', Bool.not_eq_false', Int.toNat_natCast, beq_iff_eq, decide_eq_decide, beq_eq_false_iff_ne, ne_eq, reduceCtorEq] at h) <;> (conv => whnf))
    | (refine And.intro (by (try simp only [Int.toNat_natCast]); omega) ?_; conv => whnf)
    | (refine And.intro (show (_ : Bool) = true from by kernel_rfl) ?_; conv => whnf)
    | (refine .inl ⟨wrap64 (by omega), ?_⟩; conv => whnf)))
  · refine ⟨k + 1, [], by omega, by omega, ?_⟩
    rw [← swpTo_succ (l := l) (a := a) (b := b) (k := k) (by omega) (by omega)]
    have hr := fun q => swp_row (l := swpTo l a b k) (i := a + k) (j := b + k) (by omega) (by omega) q
    (repeat' (first | exact PSub.rfl | exact rfl | exact PSubs.rfl | exact trivial | exact PSub.lit_sb rfl | refine And.intro ?_ ?_))
    · rw [swp_length]
    · intro i hi; exact hr i
  · have e : k = n := by omega
    subst e
    refine ⟨rfl, [], ?_⟩
    (repeat' (first | exact PSub.rfl | exact rfl | exact PSubs.rfl | exact trivial | exact PSub.lit_sb rfl | refine And.intro ?_ ?_))
    intro i hi; exact PSubs.rfl
end Go.Abs

namespace Go.Abs
open Go.Proofs
set_option maxRecDepth 10000
set_option maxHeartbeats 1000000 in
theorem ac_slices_rotateCmpFunc_Item (l : List Item) (a m b : Nat) (isB : Bool) (D : List PV → Prop) (gb : List PV → Bool) (gi : List PV → Int) (hl : l.length ≤ 1048576) (ham : a < m) (hmb : m < b) (hb : b ≤ l.length) :
    AC Tryz.prog 175 [.own 900000, .pv (vint a), .pv (vint m), .pv (vint b), .clo D isB gb gi] [(900000, rowL 7 cItem l)] (.pv (.tup [])) [(900000, rowL 7 cItem (rot l a m b))] := by
  refine AC.of_awp_gen (T := T) T_ok hm Tryz.call175 Tryz.func175 rfl rfl rfl rfl rfl rfl ?_
  conv => whnf
  repeat (any_goals (first
    | (refine ⟨fun (h : (_ : Bool) = true) => ?_, fun (h : (_ : Bool) = false) => ?_⟩ <;> (try simp only [decide_eq_true_eq, decide_eq_false_iff_not, Bool.not_eq_true', Bool.not_eq_false', Int.toNat_natCast, beq_iff_eq, decide_eq_decide, beq_eq_false_iff_ne, ne_eq, reduceCtorEq] at h) <;> (conv => whnf))
    | (refine And.intro (by (try simp only [Int.toNat_natCast]); omega) ?_; conv => whnf)
    | (refine And.intro (show (_ : Bool) = true from by kernel_rfl) ?_; conv => whnf)
    | (refine .inl ⟨wrap64 (by omega), ?_⟩; conv => whnf)))
  refine loop_k (ι := Nat × Nat × List Item) [0, 2, 4] [] (fun x => (0 < x.1 ∧ x.1 ≤ m ∧ 0 < x.2.1 ∧ m + x.2.1 ≤ l.length ∧ x.2.2.length = l.length) ∧ rot x.2.2 (m - x.1) m (m + x.2.1) = rot l a m b) (fun x => x.1 + x.2.1) (m - a, b - m, l) (fun x => [(10, .pv (vint x.1)), (11, .pv (vint x.2.1))]) (fun x => [(900000, rowL 7 cItem x.2.2)]) [] ⟨⟨by dsimp only; omega, by dsimp only; omega, by dsimp only; omega, by dsimp only; omega, rfl⟩, by dsimp only; rw [show m - (m - a) = a from by omega, show m + (b - m) = b from by omega]⟩ ?_ (fun x hk => ?_)
  · (repeat' (first | exact PSub.rfl | exact rfl | exact PSubs.rfl | exact trivial | exact PSub.lit_sb rfl | refine And.intro ?_ ?_))
    · intro i hi; exact PSubs.rfl
    · exact PSub.int (by dsimp only; omega)
    · exact PSub.int (by dsimp only; omega)
  obtain ⟨i, j, cur⟩ := x
  obtain ⟨⟨hi0, him, hj0, hj, hcl⟩, hinv⟩ := hk
  dsimp only at hi0 him hj0 hj hcl hinv
  have e1 : ((m - i : Nat) : Int) = (m : Int) - i := by omega
  have e2 : ((m + j - i : Nat) : Int) = (m : Int) + j - i := by omega
  have c1 := fun (h : j < i) => ac_slices_swapRangeCmpFunc_Item cur (m - i) m j isB D gb gi (by omega) (by omega) (by omega)
  have c2 := fun (h : i < j) => ac_slices_swapRangeCmpFunc_Item cur (m - i) (m + j - i) i isB D gb gi (by omega) (by omega) (by omega)
  have c3 := fun (h : i = j) => ac_slices_swapRangeCmpFunc_Item cur (m - i) m i isB D gb gi (by omega) (by omega) (by omega)
  rw [e1] at c1 c3
  rw [e1, e2] at c2
  dsimp only
  conv => whnf
  repeat (any_goals (first
    | (refine ⟨fun (h : (_ : Bool) = true) => ?_, fun (h : (_ : Bool) = false) => ?_⟩ <;> (try simp only [decide_eq_true_eq, decide_eq_false_iff_not, Bool.not_eq_true', Bool.not_eq_false', Int.toNat_natCast, beq_iff_eq, decide_eq_decide, beq_eq_false_iff_ne, ne_eq, reduceCtorEq] at h) <;> (conv => whnf))
    | (refine .inr (.inr (.inr (.inr ⟨[(900000, 900000)], [], _, _, _, c1 (by omega), rfl, ?_⟩))); conv => whnf)
    | (refine .inr (.inr (.inr (.inr ⟨[(900000, 900000)], [], _, _, _, c2 (by omega), rfl, ?_⟩))); conv => whnf)
    | (refine .inr (.inr (.inr (.inr ⟨[(900000, 900000)], [], _, _, _, c3 (by omega), rfl, ?_⟩))); conv => whnf)
    | (refine And.intro (by (try simp only [Int.toNat_natCast]); omega) ?_; conv => whnf)
    | (refine And.intro (show (_ : Bool) = true from by kernel_rfl) ?_; conv => whnf)
    | (refine .inl ⟨wrap64 (by omega), ?_⟩; conv => whnf)))
  · have h1 : j < i := by omega
    have hsl := swpTo_length cur (m - i) m j
    refine ⟨(i - j, j, swpTo cur (m - i) m j), [], ⟨⟨by dsimp only; omega, by dsimp only; omega, by dsimp only; omega, by dsimp only; omega, by dsimp only; omega⟩, by dsimp only; rw [rot_left him (by omega) h1]; exact hinv⟩, by dsimp only; omega, ?_⟩
    (repeat' (first | exact PSub.rfl | exact rfl | exact PSubs.rfl | exact trivial | exact PSub.lit_sb rfl | refine And.intro ?_ ?_))
    · intro i hi; exact PSubs.rfl
    · exact PSub.int (by dsimp only; omega)
  · have h1 : i < j := by omega
    have hsl := swpTo_length cur (m - i) (m + j - i) i
    refine ⟨(i, j - i, swpTo cur (m - i) (m + j - i) i), [], ⟨⟨by dsimp only; omega, by dsimp only; omega, by dsimp only; omega, by dsimp only; omega, by dsimp only; omega⟩, by dsimp only; rw [rot_right him (by omega) h1]; exact hinv⟩, by dsimp only; omega, ?_⟩
    (repeat' (first | exact PSub.rfl | exact rfl | exact PSubs.rfl | exact trivial | exact PSub.lit_sb rfl | refine And.intro ?_ ?_))
    · intro i hi; exact PSubs.rfl
    · exact PSub.int (by dsimp only; omega)
  · have h1 : i = j := by omega
    subst h1
    rw [← hinv, ← rot_last him (by omega)]
    refine ⟨rfl, [], ?_⟩
    (repeat' (first | exact PSub.rfl | exact rfl | exact PSubs.rfl | exact trivial | exact PSub.lit_sb rfl | refine And.intro ?_ ?_))
    intro i hi; exact PSubs.rfl
end Go.Abs

namespace Go.Abs
open Go.Proofs
set_option maxRecDepth 10000
def cmpD : List PV → Prop := fun xs => ∃ x y : Item, xs = [.agg (cItem x), .agg (cItem y)]
def CmpS (gi : List PV → Int) (lt : Item → Item → Bool) : Prop := ∀ x y : Item, decide (gi [.agg (cItem x), .agg (cItem y)] < 0) = lt x y
set_option maxHeartbeats 1000000 in
theorem ac_slices_insertionSortCmpFunc_Item (l : List Item) (a b : Nat) (gb : List PV → Bool) (gi : List PV → Int) (lt : Item → Item → Bool) (hw : SWO lt) (hc : CmpS gi lt) (hl : l.length ≤ 1048576) (hab : a ≤ b) (hb : b ≤ l.length) :
    AC Tryz.prog 158 [.own 900000, .pv (vint a), .pv (vint b), .clo cmpD false gb gi] [(900000, rowL 7 cItem l)] (.pv (.tup [])) [(900000, rowL 7 cItem (srtSeg lt l a b))] := by
  refine AC.of_awp_gen (T := T) T_ok hm Tryz.call158 Tryz.func158 rfl rfl rfl rfl rfl rfl ?_
  conv => whnf
  repeat (any_goals (first
    | (refine ⟨fun (h : (_ : Bool) = true) => ?_, fun (h : (_ : Bool) = false) => ?_⟩ <;> (try simp only [decide_eq_true_eq, decide_eq_false_iff_not, Bool.not_eq_true', Bool.not_eq_false', Int.toNat_natCast, beq_iff_eq, decide_eq_decide, beq_eq_false_iff_ne, ne_eq, reduceCtorEq] at h) <;> (conv => whnf))
    | (refine And.intro (by (try simp only [Int.toNat_natCast]); omega) ?_; conv => whnf)
    | (refine And.intro (show (_ : Bool) = true from by kernel_rfl) ?_; conv => whnf)
    | (refine .inl ⟨wrap64 (by omega), ?_⟩; conv => whnf)))
  refine loop_k (ι := Nat) [0, 1, 2, 3] [] (fun i => a + 1 ≤ i ∧ (i ≤ b ∨ i = a + 1)) (fun i => b - i) (a + 1) (fun i => [(8, .pv (vint i))]) (fun i => [(900000, rowL 7 cItem (srtSeg lt l a (min i b)))]) [] ⟨by omega, by omega⟩ ?_ (fun i hk => ?_)
  · rw [srtSeg_still hw (by omega) (by omega) (fun p q p1 p2 p3 => by omega)]
    (repeat' (first | exact PSub.rfl | exact rfl | exact PSubs.rfl | exact trivial | exact PSub.lit_sb rfl | refine And.intro ?_ ?_))
    intro i hi; exact PSubs.rfl
  obtain ⟨hi1, hi2⟩ := hk
  conv => whnf
  repeat (any_goals (first
    | (refine ⟨fun (h : (_ : Bool) = true) => ?_, fun (h : (_ : Bool) = false) => ?_⟩ <;> (try simp only [decide_eq_true_eq, decide_eq_false_iff_not, Bool.not_eq_true', Bool.not_eq_false', Int.toNat_natCast, beq_iff_eq, decide_eq_decide, beq_eq_false_iff_ne, ne_eq, reduceCtorEq] at h) <;> (conv => whnf))
    | (refine And.intro (by (try simp only [Int.toNat_natCast]); omega) ?_; conv => whnf)
    | (refine And.intro (show (_ : Bool) = true from by kernel_rfl) ?_; conv => whnf)
    | (refine .inl ⟨wrap64 (by omega), ?_⟩; conv => whnf)))
  · have hib : i < b := by omega
    have hmin : min i b = i := by omega
    rw [hmin]
    have hsl := srtSeg_length (lt := lt) (l := l) (a := a) (b := i) (by omega) (by omega)
    refine loop_k (ι := Nat) [0, 1, 2, 3, 8] [] (fun j => a ≤ j ∧ j ≤ i ∧ ∀ q, j ≤ q → q < i → lt (l.getD i default) ((srtSeg lt l a i).getD q default) = true) (fun j => j) i (fun j => [(9, .pv (vint j))]) (fun j => [(900000, rowL 7 cItem (rot (srtSeg lt l a i) j i (i + 1)))]) [] ⟨by omega, by omega, fun q q1 q2 => by omega⟩ ?_ (fun j hj => ?_)
    · rw [rot_none (by omega)]
      (repeat' (first | exact PSub.rfl | exact rfl | exact PSubs.rfl | exact trivial | exact PSub.lit_sb rfl | refine And.intro ?_ ?_))
      intro i hi; exact PSubs.rfl
    obtain ⟨hj1, hj2, hj3⟩ := hj
    have hrl := rot_length (srtSeg lt l a i) j i (i + 1)
    conv => whnf
    repeat (any_goals (first
      | (refine ⟨fun (h : (_ : Bool) = true) => ?_, fun (h : (_ : Bool) = false) => ?_⟩ <;> (try simp only [decide_eq_true_eq, decide_eq_false_iff_not, Bool.not_eq_true', Bool.not_eq_false', Int.toNat_natCast, beq_iff_eq, decide_eq_decide, beq_eq_false_iff_ne, ne_eq, reduceCtorEq] at h) <;> (conv => whnf))
      | (refine And.intro (by (try simp only [Int.toNat_natCast]); omega) ?_; conv => whnf)
      | (refine And.intro (show (_ : Bool) = true from by kernel_rfl) ?_; conv => whnf)
      | (refine .inl ⟨wrap64 (by omega), ?_⟩; conv => whnf)))
    · refine And.intro ⟨_, _, rfl⟩ ?_
      have ht : (↑j - 1 : Int).toNat = j - 1 := by omega
      have hja : a < j := by omega
      have hx : (rot (srtSeg lt l a i) j i (i + 1)).getD j default = l.getD i default := by
        rw [rot_getD (by omega), if_pos (by omega), srtSeg_getD (by omega) (by omega), if_neg (by omega), if_neg (by omega)]
        congr 1; omega
      have hy : (rot (srtSeg lt l a i) j i (i + 1)).getD (j - 1) default = (srtSeg lt l a i).getD (j - 1) default := by
        rw [rot_getD (by omega), if_neg (by omega), if_neg (by omega)]
      rw [ht]
      conv => whnf
      repeat (any_goals (first
        | (refine ⟨fun (h : (_ : Bool) = true) => ?_, fun (h : (_ : Bool) = false) => ?_⟩ <;> (try simp only [decide_eq_true_eq, decide_eq_false_iff_not, Bool.not_eq_true', Bool.not_eq_false', Int.toNat_natCast, beq_iff_eq, decide_eq_decide, beq_eq_false_iff_ne, ne_eq, reduceCtorEq] at h) <;> (conv => whnf))
        | (refine And.intro (by (try simp only [Int.toNat_natCast]); omega) ?_; conv => whnf)
        | (refine And.intro (show (_ : Bool) = true from by kernel_rfl) ?_; conv => whnf)
        | (refine .inl ⟨wrap64 (by omega), ?_⟩; conv => whnf)))
      · have h2 := (hc ((rot (srtSeg lt l a i) j i (i + 1)).getD j default) ((rot (srtSeg lt l a i) j i (i + 1)).getD (j - 1) default)).symm.trans (decide_eq_true h)
        rw [hx, hy] at h2
        rw [ht]
        refine ⟨j - 1, [], ⟨by omega, by omega, fun q q1 q2 => ?_⟩, by omega, ?_⟩
        · by_cases e : q = j - 1
          · rw [e]; exact h2
          · exact hj3 q (by omega) q2
        rw [← rot_down (by omega) hj2 (by omega)]
        have hr := fun q => swp_row (l := rot (srtSeg lt l a i) j i (i + 1)) (i := j) (j := j - 1) (by omega) (by omega) q
        (repeat' (first | exact PSub.rfl | exact rfl | exact PSubs.rfl | exact trivial | exact PSub.lit_sb rfl | refine And.intro ?_ ?_))
        · rw [swp_length]
        · intro q hq; exact hr q
        · exact PSub.int (by omega)
      · have h2 := (hc ((rot (srtSeg lt l a i) j i (i + 1)).getD j default) ((rot (srtSeg lt l a i) j i (i + 1)).getD (j - 1) default)).symm.trans (decide_eq_false h)
        rw [hx, hy] at h2
        rw [ins_done hw hj1 hj2 (by omega) hj3 (fun _ => h2)]
        refine ⟨i + 1, [], ⟨by omega, by omega⟩, by omega, ?_⟩
        rw [show min (i + 1) b = i + 1 from by omega]
        (repeat' (first | exact PSub.rfl | exact rfl | exact PSubs.rfl | exact trivial | exact PSub.lit_sb rfl | refine And.intro ?_ ?_))
        all_goals (intro q hq; exact PSubs.rfl)
    · rw [ins_done hw hj1 hj2 (by omega) hj3 (fun x => by omega)]
      refine ⟨i + 1, [], ⟨by omega, by omega⟩, by omega, ?_⟩
      rw [show min (i + 1) b = i + 1 from by omega]
      (repeat' (first | exact PSub.rfl | exact rfl | exact PSubs.rfl | exact trivial | exact PSub.lit_sb rfl | refine And.intro ?_ ?_))
      all_goals (intro q hq; exact PSubs.rfl)
  · rw [show min i b = b from by omega]
    refine ⟨rfl, [], ?_⟩
    (repeat' (first | exact PSub.rfl | exact rfl | exact PSubs.rfl | exact trivial | exact PSub.lit_sb rfl | refine And.intro ?_ ?_))
    intro i hi; exact PSubs.rfl
end Go.Abs

namespace Go.Abs
open Go.Proofs
set_option maxRecDepth 10000
section
variable {α : Type} [Inhabited α] {lt : α → α → Bool}
theorem rot_up {l : List α} {a k : Nat} (h1 : a ≤ k) (h2 : k + 1 < l.length) : swp (rot l a (a + 1) (k + 1)) k (k + 1) = rot l a (a + 1) (k + 2) := by
  have hl := rot_length l a (a + 1) (k + 1)
  refine list_ext_getD (by rw [swp_length, hl, rot_length]) fun q hq => ?_
  rw [swp_length, hl] at hq
  rw [swp_getD (by omega) (by omega), rot_getD (q := k) (by omega), rot_getD (q := k + 1) (by omega), rot_getD (q := q) (by omega), rot_getD (q := q) (by omega)]
  by_cases e1 : q = k + 1
  · subst e1
    rw [if_pos rfl, if_neg (by omega), if_pos (by omega), if_neg (by omega), if_pos (by omega)]
    congr 1; omega
  · rw [if_neg e1]
    by_cases e2 : q = k
    · subst e2
      rw [if_pos rfl, if_neg (by omega), if_neg (by omega), if_pos (by omega)]
      congr 1; omega
    · rw [if_neg e2]
      by_cases c : a ≤ q ∧ q < k
      · rw [if_pos (by omega), if_pos (by omega)]
      · rw [if_neg (by omega), if_neg (by omega), if_neg (by omega), if_neg (by omega)]
theorem rot_one {l : List α} {a : Nat} (h : a < l.length) : rot l a (a + 1) (a + 1) = l := by
  refine list_ext_getD (rot_length _ _ _ _) fun q hq => ?_
  rw [rot_length] at hq
  rw [rot_getD hq, if_neg (by omega)]
  by_cases c : a + (a + 1 - (a + 1)) ≤ q ∧ q < a + 1
  · rw [if_pos c]; congr 1; omega
  · rw [if_neg c]
theorem rot_nil {l : List α} {s m e : Nat} (hsm : s ≤ m) (hme : m ≤ e) (h : s = m ∨ m = e) : rot l s m e = l := by
  refine list_ext_getD (rot_length _ _ _ _) fun q hq => ?_
  rw [rot_length] at hq
  rw [rot_getD hq]
  by_cases c1 : s ≤ q ∧ q < s + (e - m)
  · rw [if_pos c1]; congr 1; omega
  · rw [if_neg c1]
    by_cases c2 : s + (e - m) ≤ q ∧ q < e
    · rw [if_pos c2]; congr 1; omega
    · rw [if_neg c2]
theorem rot_srt {l : List α} {a m b s e mid : Nat} (has : a ≤ s) (hsm : s ≤ m) (hme : m ≤ e) (heb : e ≤ b) (hb : b ≤ l.length) (hmid : mid = s + (e - m)) (hL : srtO lt l a m) (hR : srtO lt l m b) :
    srtO lt (rot l s m e) a s ∧ srtO lt (rot l s m e) s mid ∧ srtO lt (rot l s m e) mid e ∧ srtO lt (rot l s m e) e b := by
  subst hmid
  have g1 : ∀ x, x < s → (rot l s m e).getD x default = l.getD x default := fun x hx => by rw [rot_getD (by omega), if_neg (by omega), if_neg (by omega)]
  have g2 : ∀ x, s ≤ x → x < s + (e - m) → (rot l s m e).getD x default = l.getD (m + (x - s)) default := fun x h1 h2 => by rw [rot_getD (by omega), if_pos ⟨h1, h2⟩]
  have g3 : ∀ x, s + (e - m) ≤ x → x < e → (rot l s m e).getD x default = l.getD (s + (x - (s + (e - m)))) default := fun x h1 h2 => by rw [rot_getD (by omega), if_neg (by omega), if_pos ⟨h1, h2⟩]
  have g4 : ∀ x, e ≤ x → x < b → (rot l s m e).getD x default = l.getD x default := fun x h1 h2 => by rw [rot_getD (by omega), if_neg (by omega), if_neg (by omega)]
  refine ⟨fun p q p1 p2 p3 => ?_, fun p q p1 p2 p3 => ?_, fun p q p1 p2 p3 => ?_, fun p q p1 p2 p3 => ?_⟩
  · rw [g1 p (by omega), g1 q p3]; exact hL p q p1 p2 (by omega)
  · rw [g2 p p1 (by omega), g2 q (by omega) p3]; exact hR _ _ (by omega) (by omega) (by omega)
  · rw [g3 p p1 (by omega), g3 q (by omega) p3]; exact hL _ _ (by omega) (by omega) (by omega)
  · rw [g4 p p1 (by omega), g4 q (by omega) p3]; exact hR _ _ (by omega) p2 p3
end
theorem half64 (n : Nat) (s : Int) (hs : s = n) (h : n ≤ 4294967296) : IntKind.i64.wrap ((IntKind.u64.wrap s).fdiv (2 ^ min (Int.toNat 1) IntKind.u64.bits)) = ((n / 2 : Nat) : Int) := by
  subst hs
  have e1 : IntKind.u64.wrap (n : Int) = n := by simp [IntKind.wrap, IntKind.bits, IntKind.signed]; omega
  have e2 : (2 : Int) ^ min (Int.toNat 1) IntKind.u64.bits = 2 := by decide
  rw [e1, e2, Int.fdiv_eq_ediv_of_nonneg _ (by omega), IntKind.wrap_i64]
  omega
set_option maxHeartbeats 2000000 in
theorem ac_sym_n (gb : List PV → Bool) (gi : List PV → Int) (lt : Item → Item → Bool) (hw : SWO lt) (hc : CmpS gi lt) (N : Nat) : ∀ (l : List Item) (a m b : Nat), b - a ≤ N → l.length ≤ 1048576 → a < m → m < b → b ≤ l.length → srtO lt l a m → srtO lt l m b →
    AC Tryz.prog 159 [.own 900000, .pv (vint a), .pv (vint m), .pv (vint b), .clo cmpD false gb gi] [(900000, rowL 7 cItem l)] (.pv (.tup [])) [(900000, rowL 7 cItem (srtSeg lt l a b))] := by
  induction N with
  | zero => intro l a m b h1 h2 h3 h4; omega
  | succ N ih =>
  intro l a m b hN hl ham hmb hb hL hR
  have hle := fun p q => srtO_le hw hR (p := p) (q := q)
  have hleL := fun p q => srtO_le hw hL (p := p) (q := q)
  refine AC.of_awp_gen (T := T) T_ok hm Tryz.call159 Tryz.func159 rfl rfl rfl rfl rfl rfl ?_
  conv => whnf
  repeat (any_goals (first
    | (refine ⟨fun (h : (_ : Bool) = true) => ?_, fun (h : (_ : Bool) = false) => ?_⟩ <;> (try simp only [decide_eq_true_eq, decide_eq_false_iff_not, Bool.not_eq_true', Bool.not_eq_false', Int.toNat_natCast, beq_iff_eq, decide_eq_decide, beq_eq_false_iff_ne, ne_eq, reduceCtorEq] at h) <;> (conv => whnf))
    | (refine And.intro (by (try simp only [Int.toNat_natCast]); omega) ?_; conv => whnf)
    | (refine And.intro (show (_ : Bool) = true from by kernel_rfl) ?_; conv => whnf)
    | (refine .inl ⟨wrap64 (by omega), ?_⟩; conv => whnf)))
  · have hma : m = a + 1 := by omega
    subst hma
    refine loop_k (ι := Nat × Nat) [0, 1, 2, 3, 4] [900000] (fun x => (a + 1 ≤ x.1 ∧ x.1 ≤ x.2 ∧ x.2 ≤ b) ∧ (∀ q, a + 1 ≤ q → q < x.1 → lt (l.getD q default) (l.getD a default) = true) ∧ ∀ q, x.2 ≤ q → q < b → lt (l.getD q default) (l.getD a default) = false) (fun x => x.2 - x.1) (a + 1, b) (fun x => [(10, .pv (vint x.1)), (11, .pv (vint x.2))]) (fun x => []) [] ⟨⟨by dsimp only; omega, by dsimp only; omega, by dsimp only; omega⟩, fun q q1 q2 => by dsimp only at q2; omega, fun q q1 q2 => by dsimp only at q1; omega⟩ ?_ (fun x hk => ?_)
    · (repeat' (first | exact PSub.rfl | exact rfl | exact PSubs.rfl | exact trivial | exact PSub.lit_sb rfl | refine And.intro ?_ ?_))
      all_goals (intro q hq; exact PSubs.rfl)
    obtain ⟨i, j⟩ := x
    obtain ⟨⟨hi, hij, hj⟩, h1, h2⟩ := hk
    dsimp only at hi hij hj h1 h2 ⊢
    conv => whnf
    repeat (any_goals (first
      | (refine ⟨fun (h : (_ : Bool) = true) => ?_, fun (h : (_ : Bool) = false) => ?_⟩ <;> (try simp only [decide_eq_true_eq, decide_eq_false_iff_not, Bool.not_eq_true', Bool.not_eq_false', Int.toNat_natCast, beq_iff_eq, decide_eq_decide, beq_eq_false_iff_ne, ne_eq, reduceCtorEq] at h) <;> (conv => whnf))
      | (refine And.intro (by (try simp only [Int.toNat_natCast]); omega) ?_; conv => whnf)
      | (refine And.intro (show (_ : Bool) = true from by kernel_rfl) ?_; conv => whnf)
      | (refine .inl ⟨wrap64 (by omega), ?_⟩; conv => whnf)))
    · rw [half64 (i + j) _ (by omega) (by omega)]
      obtain ⟨c, hcd⟩ : ∃ c, c = (i + j) / 2 := ⟨_, rfl⟩
      rw [← hcd]
      repeat (any_goals (first
        | (refine ⟨fun (h : (_ : Bool) = true) => ?_, fun (h : (_ : Bool) = false) => ?_⟩ <;> (try simp only [decide_eq_true_eq, decide_eq_false_iff_not, Bool.not_eq_true', Bool.not_eq_false', Int.toNat_natCast, beq_iff_eq, decide_eq_decide, beq_eq_false_iff_ne, ne_eq, reduceCtorEq] at h) <;> (conv => whnf))
        | (refine And.intro (by (try simp only [Int.toNat_natCast]); omega) ?_; conv => whnf)
        | (refine And.intro (show (_ : Bool) = true from by kernel_rfl) ?_; conv => whnf)
        | (refine .inl ⟨wrap64 (by omega), ?_⟩; conv => whnf)))
      refine And.intro ⟨_, _, rfl⟩ ?_
      conv => whnf
      repeat (any_goals (first
        | (refine ⟨fun (h : (_ : Bool) = true) => ?_, fun (h : (_ : Bool) = false) => ?_⟩ <;> (try simp only [decide_eq_true_eq, decide_eq_false_iff_not, Bool.not_eq_true', Bool.not_eq_false', Int.toNat_natCast, beq_iff_eq, decide_eq_decide, beq_eq_false_iff_ne, ne_eq, reduceCtorEq] at h) <;> (conv => whnf))
        | (refine And.intro (by (try simp only [Int.toNat_natCast]); omega) ?_; conv => whnf)
        | (refine And.intro (show (_ : Bool) = true from by kernel_rfl) ?_; conv => whnf)
        | (refine .inl ⟨wrap64 (by omega), ?_⟩; conv => whnf)))
      · have h3 := (hc (l.getD c default) (l.getD a default)).symm.trans (decide_eq_true h)
        refine ⟨(c + 1, j), [], ⟨⟨by dsimp only; omega, by dsimp only; omega, by dsimp only; omega⟩, fun q q1 q2 => ?_, h2⟩, by dsimp only; omega, ?_⟩
        · dsimp only at q2
          exact hw.le_lt (hle q c q1 (by omega) (by omega)) h3
        (repeat' (first | exact PSub.rfl | exact rfl | exact PSubs.rfl | exact trivial | exact PSub.lit_sb rfl | refine And.intro ?_ ?_))
        all_goals first | exact PSub.int (by dsimp only; omega) | (intro q hq; exact PSubs.rfl)
      · have h3 := (hc (l.getD c default) (l.getD a default)).symm.trans (decide_eq_false h)
        refine ⟨(i, c), [], ⟨⟨by dsimp only; omega, by dsimp only; omega, by dsimp only; omega⟩, h1, fun q q1 q2 => ?_⟩, by dsimp only; omega, ?_⟩
        · dsimp only at q1
          exact hw.trans _ _ _ (hle c q (by omega) q1 q2) h3
        (repeat' (first | exact PSub.rfl | exact rfl | exact PSubs.rfl | exact trivial | exact PSub.lit_sb rfl | refine And.intro ?_ ?_))
        all_goals first | exact PSub.int (by dsimp only; omega) | (intro q hq; exact PSubs.rfl)
    · have e : i = j := by omega
      subst e
      rw [sym_left hw hi hj hb hR h1 h2]
      refine loop_k (ι := Nat) [0, 1, 2, 3, 4, 10] [] (fun k => a ≤ k ∧ k + 1 ≤ i) (fun k => i - k) a (fun k => [(13, .pv (vint k))]) (fun k => [(900000, rowL 7 cItem (rot l a (a + 1) (k + 1)))]) [] ⟨by omega, by omega⟩ ?_ (fun k hk => ?_)
      · rw [rot_one (by omega)]
        (repeat' (first | exact PSub.rfl | exact rfl | exact PSubs.rfl | exact trivial | exact PSub.lit_sb rfl | refine And.intro ?_ ?_))
        all_goals (intro q hq; exact PSubs.rfl)
      obtain ⟨k1, k2⟩ := hk
      have hrl := rot_length l a (a + 1) (k + 1)
      conv => whnf
      repeat (any_goals (first
        | (refine ⟨fun (h : (_ : Bool) = true) => ?_, fun (h : (_ : Bool) = false) => ?_⟩ <;> (try simp only [decide_eq_true_eq, decide_eq_false_iff_not, Bool.not_eq_true', Bool.not_eq_false', Int.toNat_natCast, beq_iff_eq, decide_eq_decide, beq_eq_false_iff_ne, ne_eq, reduceCtorEq] at h) <;> (conv => whnf))
        | (refine And.intro (by (try simp only [Int.toNat_natCast]); omega) ?_; conv => whnf)
        | (refine And.intro (show (_ : Bool) = true from by kernel_rfl) ?_; conv => whnf)
        | (refine .inl ⟨wrap64 (by omega), ?_⟩; conv => whnf)))
      · have ht : (↑k + 1 : Int).toNat = k + 1 := by omega
        refine ⟨k + 1, [], ⟨by omega, by omega⟩, by omega, ?_⟩
        rw [← rot_up (by omega) (by omega)]
        have hr := fun q => swp_row (l := rot l a (a + 1) (k + 1)) (i := k) (j := k + 1) (by omega) (by omega) q
        (repeat' (first | exact PSub.rfl | exact rfl | exact PSubs.rfl | exact trivial | exact PSub.lit_sb rfl | refine And.intro ?_ ?_))
        · rw [swp_length]
        · intro q hq; exact hr q
      · have e : k + 1 = i := by omega
        subst e
        refine ⟨rfl, [], ?_⟩
        (repeat' (first | exact PSub.rfl | exact rfl | exact PSubs.rfl | exact trivial | exact PSub.lit_sb rfl | refine And.intro ?_ ?_))
        intro q hq; exact PSubs.rfl
  · have hmb2 : b = m + 1 := by omega
    subst hmb2
    refine loop_k (ι := Nat × Nat) [0, 1, 2, 3, 4] [900000] (fun x => (a ≤ x.1 ∧ x.1 ≤ x.2 ∧ x.2 ≤ m) ∧ (∀ q, a ≤ q → q < x.1 → lt (l.getD m default) (l.getD q default) = false) ∧ ∀ q, x.2 ≤ q → q < m → lt (l.getD m default) (l.getD q default) = true) (fun x => x.2 - x.1) (a, m) (fun x => [(14, .pv (vint x.1)), (15, .pv (vint x.2))]) (fun x => []) [] ⟨⟨by dsimp only; omega, by dsimp only; omega, by dsimp only; omega⟩, fun q q1 q2 => by dsimp only at q2; omega, fun q q1 q2 => by dsimp only at q1; omega⟩ ?_ (fun x hk => ?_)
    · (repeat' (first | exact PSub.rfl | exact rfl | exact PSubs.rfl | exact trivial | exact PSub.lit_sb rfl | refine And.intro ?_ ?_))
      all_goals (intro q hq; exact PSubs.rfl)
    obtain ⟨i, j⟩ := x
    obtain ⟨⟨hi, hij, hj⟩, h1, h2⟩ := hk
    dsimp only at hi hij hj h1 h2 ⊢
    conv => whnf
    repeat (any_goals (first
      | (refine ⟨fun (h : (_ : Bool) = true) => ?_, fun (h : (_ : Bool) = false) => ?_⟩ <;> (try simp only [decide_eq_true_eq, decide_eq_false_iff_not, Bool.not_eq_true', Bool.not_eq_false', Int.toNat_natCast, beq_iff_eq, decide_eq_decide, beq_eq_false_iff_ne, ne_eq, reduceCtorEq] at h) <;> (conv => whnf))
      | (refine And.intro (by (try simp only [Int.toNat_natCast]); omega) ?_; conv => whnf)
      | (refine And.intro (show (_ : Bool) = true from by kernel_rfl) ?_; conv => whnf)
      | (refine .inl ⟨wrap64 (by omega), ?_⟩; conv => whnf)))
    · rw [half64 (i + j) _ (by omega) (by omega)]
      obtain ⟨c, hcd⟩ : ∃ c, c = (i + j) / 2 := ⟨_, rfl⟩
      rw [← hcd]
      repeat (any_goals (first
        | (refine ⟨fun (h : (_ : Bool) = true) => ?_, fun (h : (_ : Bool) = false) => ?_⟩ <;> (try simp only [decide_eq_true_eq, decide_eq_false_iff_not, Bool.not_eq_true', Bool.not_eq_false', Int.toNat_natCast, beq_iff_eq, decide_eq_decide, beq_eq_false_iff_ne, ne_eq, reduceCtorEq] at h) <;> (conv => whnf))
        | (refine And.intro (by (try simp only [Int.toNat_natCast]); omega) ?_; conv => whnf)
        | (refine And.intro (show (_ : Bool) = true from by kernel_rfl) ?_; conv => whnf)
        | (refine .inl ⟨wrap64 (by omega), ?_⟩; conv => whnf)))
      refine And.intro ⟨_, _, rfl⟩ ?_
      conv => whnf
      repeat (any_goals (first
        | (refine ⟨fun (h : (_ : Bool) = true) => ?_, fun (h : (_ : Bool) = false) => ?_⟩ <;> (try simp only [decide_eq_true_eq, decide_eq_false_iff_not, Bool.not_eq_true', Bool.not_eq_false', Int.toNat_natCast, beq_iff_eq, decide_eq_decide, beq_eq_false_iff_ne, ne_eq, reduceCtorEq] at h) <;> (conv => whnf))
        | (refine And.intro (by (try simp only [Int.toNat_natCast]); omega) ?_; conv => whnf)
        | (refine And.intro (show (_ : Bool) = true from by kernel_rfl) ?_; conv => whnf)
        | (refine .inl ⟨wrap64 (by omega), ?_⟩; conv => whnf)))
      · have h3 := (hc (l.getD m default) (l.getD c default)).symm.trans (decide_eq_false h)
        refine ⟨(c + 1, j), [], ⟨⟨by dsimp only; omega, by dsimp only; omega, by dsimp only; omega⟩, fun q q1 q2 => ?_, h2⟩, by dsimp only; omega, ?_⟩
        · dsimp only at q2
          exact hw.trans _ _ _ h3 (hleL q c q1 (by omega) (by omega))
        (repeat' (first | exact PSub.rfl | exact rfl | exact PSubs.rfl | exact trivial | exact PSub.lit_sb rfl | refine And.intro ?_ ?_))
        all_goals first | exact PSub.int (by dsimp only; omega) | (intro q hq; exact PSubs.rfl)
      · have h3 := (hc (l.getD m default) (l.getD c default)).symm.trans (decide_eq_true h)
        refine ⟨(i, c), [], ⟨⟨by dsimp only; omega, by dsimp only; omega, by dsimp only; omega⟩, h1, fun q q1 q2 => ?_⟩, by dsimp only; omega, ?_⟩
        · dsimp only at q1
          exact hw.lt_le h3 (hleL c q (by omega) q1 q2)
        (repeat' (first | exact PSub.rfl | exact rfl | exact PSubs.rfl | exact trivial | exact PSub.lit_sb rfl | refine And.intro ?_ ?_))
        all_goals first | exact PSub.int (by dsimp only; omega) | (intro q hq; exact PSubs.rfl)
    · have e : i = j := by omega
      subst e
      rw [sym_right hw hi hj hb hL h1 h2]
      refine loop_k (ι := Nat) [0, 1, 2, 3, 4, 14] [] (fun k => i ≤ k ∧ k ≤ m) (fun k => k) m (fun k => [(17, .pv (vint k))]) (fun k => [(900000, rowL 7 cItem (rot l k m (m + 1)))]) [] ⟨by omega, by omega⟩ ?_ (fun k hk => ?_)
      · rw [rot_none (by omega)]
        (repeat' (first | exact PSub.rfl | exact rfl | exact PSubs.rfl | exact trivial | exact PSub.lit_sb rfl | refine And.intro ?_ ?_))
        all_goals (intro q hq; exact PSubs.rfl)
      obtain ⟨k1, k2⟩ := hk
      have hrl := rot_length l k m (m + 1)
      conv => whnf
      repeat (any_goals (first
        | (refine ⟨fun (h : (_ : Bool) = true) => ?_, fun (h : (_ : Bool) = false) => ?_⟩ <;> (try simp only [decide_eq_true_eq, decide_eq_false_iff_not, Bool.not_eq_true', Bool.not_eq_false', Int.toNat_natCast, beq_iff_eq, decide_eq_decide, beq_eq_false_iff_ne, ne_eq, reduceCtorEq] at h) <;> (conv => whnf))
        | (refine And.intro (by (try simp only [Int.toNat_natCast]); omega) ?_; conv => whnf)
        | (refine And.intro (show (_ : Bool) = true from by kernel_rfl) ?_; conv => whnf)
        | (refine .inl ⟨wrap64 (by omega), ?_⟩; conv => whnf)))
      · have ht : (↑k - 1 : Int).toNat = k - 1 := by omega
        rw [ht]
        refine ⟨k - 1, [], ⟨by omega, by omega⟩, by omega, ?_⟩
        rw [← rot_down (by omega) k2 (by omega)]
        have hr := fun q => swp_row (l := rot l k m (m + 1)) (i := k) (j := k - 1) (by omega) (by omega) q
        (repeat' (first | exact PSub.rfl | exact rfl | exact PSubs.rfl | exact trivial | exact PSub.lit_sb rfl | refine And.intro ?_ ?_))
        · rw [swp_length]
        · intro q hq; exact hr q
        · exact PSub.int (by omega)
      · have e : k = i := by omega
        subst e
        refine ⟨rfl, [], ?_⟩
        (repeat' (first | exact PSub.rfl | exact rfl | exact PSubs.rfl | exact trivial | exact PSub.lit_sb rfl | refine And.intro ?_ ?_))
        intro q hq; exact PSubs.rfl
  rw [half64 (a + b) _ (by omega) (by omega)]
  obtain ⟨b1, b2, b3, b4, b5⟩ := sym_bounds ham hmb
  have hd1 := fun c c' => symQ_down hw ham hmb hL hR (c := c) (c' := c')
  have hd2 := fun c c' => symQ_up hw ham hmb hL hR (c := c) (c' := c')
  have hfd := fun s => sym_found (s := s) hw ham hmb hb hL hR
  have hq : ∀ c, symQ lt l a m b c = lt (l.getD ((a + b) / 2 + m - 1 - c) default) (l.getD c default) := fun c => rfl
  have elo : symLo a m b = if (a + b) / 2 < m then (a + b) / 2 + m - b else a := rfl
  have ehi : symHi a m b = if (a + b) / 2 < m then (a + b) / 2 else m := rfl
  have hm1 : a ≤ (a + b) / 2 ∧ (a + b) / 2 < b ∧ b ≤ 2 * ((a + b) / 2 - a) + 1 + a := by omega
  generalize (a + b) / 2 = mid at *
  generalize symLo a m b = lo at *
  generalize symHi a m b = hi at *
  repeat (any_goals (first
    | (refine ⟨fun (h : (_ : Bool) = true) => ?_, fun (h : (_ : Bool) = false) => ?_⟩ <;> (try simp only [decide_eq_true_eq, decide_eq_false_iff_not, Bool.not_eq_true', Bool.not_eq_false', Int.toNat_natCast, beq_iff_eq, decide_eq_decide, beq_eq_false_iff_ne, ne_eq, reduceCtorEq] at h) <;> (conv => whnf))
    | (refine And.intro (by (try simp only [Int.toNat_natCast]); omega) ?_; conv => whnf)
    | (refine And.intro (show (_ : Bool) = true from by kernel_rfl) ?_; conv => whnf)
    | (refine .inl ⟨wrap64 (by omega), ?_⟩; conv => whnf)))
  · rw [if_pos (by omega)] at elo ehi
    refine loop_k (ι := Nat × Nat) [0, 1, 2, 3, 4, 18, 19, 22] [900000] (fun x => (lo ≤ x.1 ∧ x.1 ≤ x.2 ∧ x.2 ≤ hi) ∧ (∀ c, lo ≤ c → c < x.1 → symQ lt l a m b c = false) ∧ ∀ c, x.2 ≤ c → c < hi → symQ lt l a m b c = true) (fun x => x.2 - x.1) (lo, hi) (fun x => [(20, .pv (vint x.1)), (21, .pv (vint x.2))]) (fun x => []) [] ⟨⟨by dsimp only; omega, by dsimp only; omega, by dsimp only; omega⟩, fun q q1 q2 => by dsimp only at q2; omega, fun q q1 q2 => by dsimp only at q1; omega⟩ ?_ (fun x hk => ?_)
    · (repeat' (first | exact PSub.rfl | exact rfl | exact PSubs.rfl | exact trivial | exact PSub.lit_sb rfl | refine And.intro ?_ ?_))
      all_goals first | exact PSub.int (by dsimp only; omega) | (intro q hq; exact PSubs.rfl)
    obtain ⟨s, r⟩ := x
    obtain ⟨⟨hi1, hij, hj⟩, h1, h2⟩ := hk
    dsimp only at hi1 hij hj h1 h2 ⊢
    conv => whnf
    refine ⟨fun h => ?_, fun h => ?_⟩ <;> (try simp only [decide_eq_true_eq, decide_eq_false_iff_not, Bool.not_eq_true', Bool.not_eq_false', Int.toNat_natCast, beq_iff_eq, decide_eq_decide, beq_eq_false_iff_ne, ne_eq, reduceCtorEq] at h) <;> (conv => whnf)
    · repeat (any_goals (first
        | (refine ⟨fun (h : (_ : Bool) = true) => ?_, fun (h : (_ : Bool) = false) => ?_⟩ <;> (try simp only [decide_eq_true_eq, decide_eq_false_iff_not, Bool.not_eq_true', Bool.not_eq_false', Int.toNat_natCast, beq_iff_eq, decide_eq_decide, beq_eq_false_iff_ne, ne_eq, reduceCtorEq] at h) <;> (conv => whnf))
        | (refine And.intro (by (try simp only [Int.toNat_natCast]); omega) ?_; conv => whnf)
        | (refine And.intro (show (_ : Bool) = true from by kernel_rfl) ?_; conv => whnf)
        | (refine .inl ⟨wrap64 (by omega), ?_⟩; conv => whnf)))
      rw [half64 (s + r) _ (by omega) (by omega)]
      obtain ⟨c, hcd⟩ : ∃ c, c = (s + r) / 2 := ⟨_, rfl⟩
      rw [← hcd]
      have b6 := b4 c (by omega) (by omega)
      have ht : (↑mid + ↑m - 1 - ↑c : Int).toNat = mid + m - 1 - c := by omega
      repeat (any_goals (first
        | (refine ⟨fun (h : (_ : Bool) = true) => ?_, fun (h : (_ : Bool) = false) => ?_⟩ <;> (try simp only [decide_eq_true_eq, decide_eq_false_iff_not, Bool.not_eq_true', Bool.not_eq_false', Int.toNat_natCast, beq_iff_eq, decide_eq_decide, beq_eq_false_iff_ne, ne_eq, reduceCtorEq] at h) <;> (conv => whnf))
        | (refine And.intro (by (try simp only [Int.toNat_natCast]); omega) ?_; conv => whnf)
        | (refine And.intro (show (_ : Bool) = true from by kernel_rfl) ?_; conv => whnf)
        | (refine .inl ⟨wrap64 (by omega), ?_⟩; conv => whnf)))
      refine And.intro ⟨_, _, rfl⟩ ?_
      rw [ht]
      conv => whnf
      repeat (any_goals (first
        | (refine ⟨fun (h : (_ : Bool) = true) => ?_, fun (h : (_ : Bool) = false) => ?_⟩ <;> (try simp only [decide_eq_true_eq, decide_eq_false_iff_not, Bool.not_eq_true', Bool.not_eq_false', Int.toNat_natCast, beq_iff_eq, decide_eq_decide, beq_eq_false_iff_ne, ne_eq, reduceCtorEq] at h) <;> (conv => whnf))
        | (refine And.intro (by (try simp only [Int.toNat_natCast]); omega) ?_; conv => whnf)
        | (refine And.intro (show (_ : Bool) = true from by kernel_rfl) ?_; conv => whnf)
        | (refine .inl ⟨wrap64 (by omega), ?_⟩; conv => whnf)))
      · have h3 := (hc (l.getD (mid + m - 1 - c) default) (l.getD c default)).symm.trans (decide_eq_false h)
        rw [← hq] at h3
        refine ⟨(c + 1, r), [], ⟨⟨by dsimp only; omega, by dsimp only; omega, by dsimp only; omega⟩, fun q q1 q2 => ?_, h2⟩, by dsimp only; omega, ?_⟩
        · dsimp only at q2
          exact hd1 c q h3 q1 (by omega) (by omega)
        (repeat' (first | exact PSub.rfl | exact rfl | exact PSubs.rfl | exact trivial | exact PSub.lit_sb rfl | refine And.intro ?_ ?_))
        all_goals first | exact PSub.int (by dsimp only; omega) | (intro q hq; exact PSubs.rfl)
      · have h3 := (hc (l.getD (mid + m - 1 - c) default) (l.getD c default)).symm.trans (decide_eq_true h)
        rw [← hq] at h3
        refine ⟨(s, c), [], ⟨⟨by dsimp only; omega, by dsimp only; omega, by dsimp only; omega⟩, h1, fun q q1 q2 => ?_⟩, by dsimp only; omega, ?_⟩
        · dsimp only at q1
          exact hd2 c q h3 (by omega) q1 q2
        (repeat' (first | exact PSub.rfl | exact rfl | exact PSubs.rfl | exact trivial | exact PSub.lit_sb rfl | refine And.intro ?_ ?_))
        all_goals first | exact PSub.int (by dsimp only; omega) | (intro q hq; exact PSubs.rfl)
    · have e : s = r := by omega
      subst e
      have b6 := b5 s hi1 hj
      have hfin := hfd s hi1 hj h1 h2
      have hpart := rot_srt (l := l) (a := a) (m := m) (b := b) (s := s) (e := mid + m - s) (mid := mid) (by omega) (by omega) b6.1 b6.2 hb (by omega) hL hR
      have hRl := rot_length l s m (mid + m - s)
      have hnil := rot_nil (l := l) (s := s) (m := m) (e := mid + m - s) (by omega) b6.1
      have ee : ((mid + m - s : Nat) : Int) = (mid : Int) + m - s := by omega
      have c1 := fun (h1 : s < m) (h2 : m < mid + m - s) => ac_slices_rotateCmpFunc_Item l s m (mid + m - s) false cmpD gb gi hl h1 h2 (by omega)
      rw [ee] at c1
      rw [← hfin]
      obtain ⟨R, hRd⟩ : ∃ R, R = rot l s m (mid + m - s) := ⟨_, rfl⟩
      rw [← hRd] at hpart hRl hnil c1 ⊢
      obtain ⟨hR1, hR2, hR3, hR4⟩ := hpart
      obtain ⟨S, hSd⟩ : ∃ S, S = srtSeg lt R a mid := ⟨_, rfl⟩
      have hSl : S.length = R.length := by rw [hSd]; exact srtSeg_length (by omega) (by omega)
      have hS1 : srtO lt S mid (mid + m - s) := by rw [hSd]; exact srtSeg_out (by omega) (by omega) (.inr (Nat.le_refl _)) hR3
      have hS2 : srtO lt S (mid + m - s) b := by rw [hSd]; exact srtSeg_out (by omega) (by omega) (.inr (by omega)) hR4
      have hT : ¬ (mid < mid + m - s ∧ mid + m - s < b) → srtSeg lt S mid b = S := fun h => by
        rcases Nat.lt_or_ge mid (mid + m - s) with g | g
        · have g2 : mid + m - s = b := by omega
          rw [g2] at hS1
          exact srtSeg_still hw (by omega) (by omega) hS1
        · have g2 : mid + m - s = mid := by omega
          rw [g2] at hS2
          exact srtSeg_still hw (by omega) (by omega) hS2
      have hS : ¬ (a < s ∧ s < mid) → S = R := fun h => by
        rw [hSd]
        refine srtSeg_still hw (by omega) (by omega) ?_
        rcases Nat.lt_or_ge a s with g | g
        · have g2 : s = mid := by omega
          rw [g2] at hR1; exact hR1
        · have g2 : s = a := by omega
          rw [g2] at hR2; exact hR2
      have hRe : ¬ (s < m ∧ m < mid + m - s) → R = l := fun h => hnil (by omega)
      have c2 := fun (h1 : a < s) (h2 : s < mid) => ih R a s mid (by omega) (by omega) h1 h2 (by omega) hR1 hR2
      have c3 := fun (h1 : mid < mid + m - s) (h2 : mid + m - s < b) => ih S mid (mid + m - s) b (by omega) (by omega) h1 h2 (by omega) hS1 hS2
      rw [← hSd] at c2
      obtain ⟨T, hTd⟩ : ∃ T, T = srtSeg lt S mid b := ⟨_, rfl⟩
      rw [← hTd] at c3 hT
      rw [ee] at c3
      have c2l := fun (h : ¬ (s < m ∧ m < mid + m - s)) => (hRe h) ▸ c2
      have c3R := fun (h : ¬ (a < s ∧ s < mid)) => (hS h) ▸ c3
      have c3l := fun (h : ¬ (s < m ∧ m < mid + m - s)) (h' : ¬ (a < s ∧ s < mid)) => (hRe h) ▸ (c3R h')
      rw [← hSd, ← hTd]
      clear hTd hSd hRd hfin hnil hd1 hd2 hq hfd b4 b5 ih hle hleL
      repeat (any_goals (first
        | (refine ⟨fun (h : (_ : Bool) = true) => ?_, fun (h : (_ : Bool) = false) => ?_⟩ <;> (try simp only [decide_eq_true_eq, decide_eq_false_iff_not, Bool.not_eq_true', Bool.not_eq_false', Int.toNat_natCast, beq_iff_eq, decide_eq_decide, beq_eq_false_iff_ne, ne_eq, reduceCtorEq] at h) <;> (conv => whnf))
        | (refine .inr (.inr (.inr (.inr ⟨[(900000, 900000)], [], _, _, _, c1 (by omega) (by omega), rfl, ?_⟩))); conv => whnf)
        | (refine .inr (.inr (.inr (.inr ⟨[(900000, 900000)], [], _, _, _, c2 (by omega) (by omega), rfl, ?_⟩))); conv => whnf)
        | (refine .inr (.inr (.inr (.inr ⟨[(900000, 900000)], [], _, _, _, c2l (by omega) (by omega) (by omega), rfl, ?_⟩))); conv => whnf)
        | (refine .inr (.inr (.inr (.inr ⟨[(900000, 900000)], [], _, _, _, c3 (by omega) (by omega), rfl, ?_⟩))); conv => whnf)
        | (refine .inr (.inr (.inr (.inr ⟨[(900000, 900000)], [], _, _, _, c3R (by omega) (by omega) (by omega), rfl, ?_⟩))); conv => whnf)
        | (refine .inr (.inr (.inr (.inr ⟨[(900000, 900000)], [], _, _, _, c3l (by omega) (by omega) (by omega) (by omega), rfl, ?_⟩))); conv => whnf)
        | (refine And.intro (by (try simp only [Int.toNat_natCast]); omega) ?_; conv => whnf)
        | (refine And.intro (show (_ : Bool) = true from by kernel_rfl) ?_; conv => whnf)
        | (refine .inl ⟨wrap64 (by omega), ?_⟩; conv => whnf)))
      all_goals first
        | (refine ⟨rfl, [], ?_⟩; (repeat' (first | exact PSub.rfl | exact rfl | exact PSubs.rfl | exact trivial | exact PSub.lit_sb rfl | refine And.intro ?_ ?_)); (intro q hq; exact PSubs.rfl))
        | (rw [hT (by omega)]; (refine ⟨rfl, [], ?_⟩; (repeat' (first | exact PSub.rfl | exact rfl | exact PSubs.rfl | exact trivial | exact PSub.lit_sb rfl | refine And.intro ?_ ?_)); (intro q hq; exact PSubs.rfl)))
        | (rw [hT (by omega), hS (by omega)]; (refine ⟨rfl, [], ?_⟩; (repeat' (first | exact PSub.rfl | exact rfl | exact PSubs.rfl | exact trivial | exact PSub.lit_sb rfl | refine And.intro ?_ ?_)); (intro q hq; exact PSubs.rfl)))
        | (rw [hS (by omega)] at hT; rw [hRe (by omega)] at hT; rw [hT (by omega)]; (refine ⟨rfl, [], ?_⟩; (repeat' (first | exact PSub.rfl | exact rfl | exact PSubs.rfl | exact trivial | exact PSub.lit_sb rfl | refine And.intro ?_ ?_)); (intro q hq; exact PSubs.rfl)))
        | (rw [hRe (by omega)] at hS; rw [hT (by omega), hS (by omega)]; (refine ⟨rfl, [], ?_⟩; (repeat' (first | exact PSub.rfl | exact rfl | exact PSubs.rfl | exact trivial | exact PSub.lit_sb rfl | refine And.intro ?_ ?_)); (intro q hq; exact PSubs.rfl)))
  · rw [if_neg (by omega)] at elo ehi
    refine loop_k (ι := Nat × Nat) [0, 1, 2, 3, 4, 18, 19, 22] [900000] (fun x => (lo ≤ x.1 ∧ x.1 ≤ x.2 ∧ x.2 ≤ hi) ∧ (∀ c, lo ≤ c → c < x.1 → symQ lt l a m b c = false) ∧ ∀ c, x.2 ≤ c → c < hi → symQ lt l a m b c = true) (fun x => x.2 - x.1) (lo, hi) (fun x => [(20, .pv (vint x.1)), (21, .pv (vint x.2))]) (fun x => []) [] ⟨⟨by dsimp only; omega, by dsimp only; omega, by dsimp only; omega⟩, fun q q1 q2 => by dsimp only at q2; omega, fun q q1 q2 => by dsimp only at q1; omega⟩ ?_ (fun x hk => ?_)
    · (repeat' (first | exact PSub.rfl | exact rfl | exact PSubs.rfl | exact trivial | exact PSub.lit_sb rfl | refine And.intro ?_ ?_))
      all_goals first | exact PSub.int (by dsimp only; omega) | (intro q hq; exact PSubs.rfl)
    obtain ⟨s, r⟩ := x
    obtain ⟨⟨hi1, hij, hj⟩, h1, h2⟩ := hk
    dsimp only at hi1 hij hj h1 h2 ⊢
    conv => whnf
    refine ⟨fun h => ?_, fun h => ?_⟩ <;> (try simp only [decide_eq_true_eq, decide_eq_false_iff_not, Bool.not_eq_true', Bool.not_eq_false', Int.toNat_natCast, beq_iff_eq, decide_eq_decide, beq_eq_false_iff_ne, ne_eq, reduceCtorEq] at h) <;> (conv => whnf)
    · repeat (any_goals (first
        | (refine ⟨fun (h : (_ : Bool) = true) => ?_, fun (h : (_ : Bool) = false) => ?_⟩ <;> (try simp only [decide_eq_true_eq, decide_eq_false_iff_not, Bool.not_eq_true', Bool.not_eq_false', Int.toNat_natCast, beq_iff_eq, decide_eq_decide, beq_eq_false_iff_ne, ne_eq, reduceCtorEq] at h) <;> (conv => whnf))
        | (refine And.intro (by (try simp only [Int.toNat_natCast]); omega) ?_; conv => whnf)
        | (refine And.intro (show (_ : Bool) = true from by kernel_rfl) ?_; conv => whnf)
        | (refine .inl ⟨wrap64 (by omega), ?_⟩; conv => whnf)))
      rw [half64 (s + r) _ (by omega) (by omega)]
      obtain ⟨c, hcd⟩ : ∃ c, c = (s + r) / 2 := ⟨_, rfl⟩
      rw [← hcd]
      have b6 := b4 c (by omega) (by omega)
      have ht : (↑mid + ↑m - 1 - ↑c : Int).toNat = mid + m - 1 - c := by omega
      repeat (any_goals (first
        | (refine ⟨fun (h : (_ : Bool) = true) => ?_, fun (h : (_ : Bool) = false) => ?_⟩ <;> (try simp only [decide_eq_true_eq, decide_eq_false_iff_not, Bool.not_eq_true', Bool.not_eq_false', Int.toNat_natCast, beq_iff_eq, decide_eq_decide, beq_eq_false_iff_ne, ne_eq, reduceCtorEq] at h) <;> (conv => whnf))
        | (refine And.intro (by (try simp only [Int.toNat_natCast]); omega) ?_; conv => whnf)
        | (refine And.intro (show (_ : Bool) = true from by kernel_rfl) ?_; conv => whnf)
        | (refine .inl ⟨wrap64 (by omega), ?_⟩; conv => whnf)))
      refine And.intro ⟨_, _, rfl⟩ ?_
      rw [ht]
      conv => whnf
      repeat (any_goals (first
        | (refine ⟨fun (h : (_ : Bool) = true) => ?_, fun (h : (_ : Bool) = false) => ?_⟩ <;> (try simp only [decide_eq_true_eq, decide_eq_false_iff_not, Bool.not_eq_true', Bool.not_eq_false', Int.toNat_natCast, beq_iff_eq, decide_eq_decide, beq_eq_false_iff_ne, ne_eq, reduceCtorEq] at h) <;> (conv => whnf))
        | (refine And.intro (by (try simp only [Int.toNat_natCast]); omega) ?_; conv => whnf)
        | (refine And.intro (show (_ : Bool) = true from by kernel_rfl) ?_; conv => whnf)
        | (refine .inl ⟨wrap64 (by omega), ?_⟩; conv => whnf)))
      · have h3 := (hc (l.getD (mid + m - 1 - c) default) (l.getD c default)).symm.trans (decide_eq_false h)
        rw [← hq] at h3
        refine ⟨(c + 1, r), [], ⟨⟨by dsimp only; omega, by dsimp only; omega, by dsimp only; omega⟩, fun q q1 q2 => ?_, h2⟩, by dsimp only; omega, ?_⟩
        · dsimp only at q2
          exact hd1 c q h3 q1 (by omega) (by omega)
        (repeat' (first | exact PSub.rfl | exact rfl | exact PSubs.rfl | exact trivial | exact PSub.lit_sb rfl | refine And.intro ?_ ?_))
        all_goals first | exact PSub.int (by dsimp only; omega) | (intro q hq; exact PSubs.rfl)
      · have h3 := (hc (l.getD (mid + m - 1 - c) default) (l.getD c default)).symm.trans (decide_eq_true h)
        rw [← hq] at h3
        refine ⟨(s, c), [], ⟨⟨by dsimp only; omega, by dsimp only; omega, by dsimp only; omega⟩, h1, fun q q1 q2 => ?_⟩, by dsimp only; omega, ?_⟩
        · dsimp only at q1
          exact hd2 c q h3 (by omega) q1 q2
        (repeat' (first | exact PSub.rfl | exact rfl | exact PSubs.rfl | exact trivial | exact PSub.lit_sb rfl | refine And.intro ?_ ?_))
        all_goals first | exact PSub.int (by dsimp only; omega) | (intro q hq; exact PSubs.rfl)
    · have e : s = r := by omega
      subst e
      have b6 := b5 s hi1 hj
      have hfin := hfd s hi1 hj h1 h2
      have hpart := rot_srt (l := l) (a := a) (m := m) (b := b) (s := s) (e := mid + m - s) (mid := mid) (by omega) (by omega) b6.1 b6.2 hb (by omega) hL hR
      have hRl := rot_length l s m (mid + m - s)
      have hnil := rot_nil (l := l) (s := s) (m := m) (e := mid + m - s) (by omega) b6.1
      have ee : ((mid + m - s : Nat) : Int) = (mid : Int) + m - s := by omega
      have c1 := fun (h1 : s < m) (h2 : m < mid + m - s) => ac_slices_rotateCmpFunc_Item l s m (mid + m - s) false cmpD gb gi hl h1 h2 (by omega)
      rw [ee] at c1
      rw [← hfin]
      obtain ⟨R, hRd⟩ : ∃ R, R = rot l s m (mid + m - s) := ⟨_, rfl⟩
      rw [← hRd] at hpart hRl hnil c1 ⊢
      obtain ⟨hR1, hR2, hR3, hR4⟩ := hpart
      obtain ⟨S, hSd⟩ : ∃ S, S = srtSeg lt R a mid := ⟨_, rfl⟩
      have hSl : S.length = R.length := by rw [hSd]; exact srtSeg_length (by omega) (by omega)
      have hS1 : srtO lt S mid (mid + m - s) := by rw [hSd]; exact srtSeg_out (by omega) (by omega) (.inr (Nat.le_refl _)) hR3
      have hS2 : srtO lt S (mid + m - s) b := by rw [hSd]; exact srtSeg_out (by omega) (by omega) (.inr (by omega)) hR4
      have hT : ¬ (mid < mid + m - s ∧ mid + m - s < b) → srtSeg lt S mid b = S := fun h => by
        rcases Nat.lt_or_ge mid (mid + m - s) with g | g
        · have g2 : mid + m - s = b := by omega
          rw [g2] at hS1
          exact srtSeg_still hw (by omega) (by omega) hS1
        · have g2 : mid + m - s = mid := by omega
          rw [g2] at hS2
          exact srtSeg_still hw (by omega) (by omega) hS2
      have hS : ¬ (a < s ∧ s < mid) → S = R := fun h => by
        rw [hSd]
        refine srtSeg_still hw (by omega) (by omega) ?_
        rcases Nat.lt_or_ge a s with g | g
        · have g2 : s = mid := by omega
          rw [g2] at hR1; exact hR1
        · have g2 : s = a := by omega
          rw [g2] at hR2; exact hR2
      have hRe : ¬ (s < m ∧ m < mid + m - s) → R = l := fun h => hnil (by omega)
      have c2 := fun (h1 : a < s) (h2 : s < mid) => ih R a s mid (by omega) (by omega) h1 h2 (by omega) hR1 hR2
      have c3 := fun (h1 : mid < mid + m - s) (h2 : mid + m - s < b) => ih S mid (mid + m - s) b (by omega) (by omega) h1 h2 (by omega) hS1 hS2
      rw [← hSd] at c2
      obtain ⟨T, hTd⟩ : ∃ T, T = srtSeg lt S mid b := ⟨_, rfl⟩
      rw [← hTd] at c3 hT
      rw [ee] at c3
      have c2l := fun (h : ¬ (s < m ∧ m < mid + m - s)) => (hRe h) ▸ c2
      have c3R := fun (h : ¬ (a < s ∧ s < mid)) => (hS h) ▸ c3
      have c3l := fun (h : ¬ (s < m ∧ m < mid + m - s)) (h' : ¬ (a < s ∧ s < mid)) => (hRe h) ▸ (c3R h')
      rw [← hSd, ← hTd]
      clear hTd hSd hRd hfin hnil hd1 hd2 hq hfd b4 b5 ih hle hleL
      repeat (any_goals (first
        | (refine ⟨fun (h : (_ : Bool) = true) => ?_, fun (h : (_ : Bool) = false) => ?_⟩ <;> (try simp only [decide_eq_true_eq, decide_eq_false_iff_not, Bool.not_eq_true', Bool.not_eq_false', Int.toNat_natCast, beq_iff_eq, decide_eq_decide, beq_eq_false_iff_ne, ne_eq, reduceCtorEq] at h) <;> (conv => whnf))
        | (refine .inr (.inr (.inr (.inr ⟨[(900000, 900000)], [], _, _, _, c1 (by omega) (by omega), rfl, ?_⟩))); conv => whnf)
        | (refine .inr (.inr (.inr (.inr ⟨[(900000, 900000)], [], _, _, _, c2 (by omega) (by omega), rfl, ?_⟩))); conv => whnf)
        | (refine .inr (.inr (.inr (.inr ⟨[(900000, 900000)], [], _, _, _, c2l (by omega) (by omega) (by omega), rfl, ?_⟩))); conv => whnf)
        | (refine .inr (.inr (.inr (.inr ⟨[(900000, 900000)], [], _, _, _, c3 (by omega) (by omega), rfl, ?_⟩))); conv => whnf)
        | (refine .inr (.inr (.inr (.inr ⟨[(900000, 900000)], [], _, _, _, c3R (by omega) (by omega) (by omega), rfl, ?_⟩))); conv => whnf)
        | (refine .inr (.inr (.inr (.inr ⟨[(900000, 900000)], [], _, _, _, c3l (by omega) (by omega) (by omega) (by omega), rfl, ?_⟩))); conv => whnf)
        | (refine And.intro (by (try simp only [Int.toNat_natCast]); omega) ?_; conv => whnf)
        | (refine And.intro (show (_ : Bool) = true from by kernel_rfl) ?_; conv => whnf)
        | (refine .inl ⟨wrap64 (by omega), ?_⟩; conv => whnf)))
      all_goals first
        | (refine ⟨rfl, [], ?_⟩; (repeat' (first | exact PSub.rfl | exact rfl | exact PSubs.rfl | exact trivial | exact PSub.lit_sb rfl | refine And.intro ?_ ?_)); (intro q hq; exact PSubs.rfl))
        | (rw [hT (by omega)]; (refine ⟨rfl, [], ?_⟩; (repeat' (first | exact PSub.rfl | exact rfl | exact PSubs.rfl | exact trivial | exact PSub.lit_sb rfl | refine And.intro ?_ ?_)); (intro q hq; exact PSubs.rfl)))
        | (rw [hT (by omega), hS (by omega)]; (refine ⟨rfl, [], ?_⟩; (repeat' (first | exact PSub.rfl | exact rfl | exact PSubs.rfl | exact trivial | exact PSub.lit_sb rfl | refine And.intro ?_ ?_)); (intro q hq; exact PSubs.rfl)))
        | (rw [hS (by omega)] at hT; rw [hRe (by omega)] at hT; rw [hT (by omega)]; (refine ⟨rfl, [], ?_⟩; (repeat' (first | exact PSub.rfl | exact rfl | exact PSubs.rfl | exact trivial | exact PSub.lit_sb rfl | refine And.intro ?_ ?_)); (intro q hq; exact PSubs.rfl)))
        | (rw [hRe (by omega)] at hS; rw [hT (by omega), hS (by omega)]; (refine ⟨rfl, [], ?_⟩; (repeat' (first | exact PSub.rfl | exact rfl | exact PSubs.rfl | exact trivial | exact PSub.lit_sb rfl | refine And.intro ?_ ?_)); (intro q hq; exact PSubs.rfl)))
end Go.Abs

namespace Go.Abs
open Go.Proofs
set_option maxRecDepth 10000
set_option maxHeartbeats 2000000 in
theorem ac_slices_stableCmpFunc_Item (l : List Item) (gb : List PV → Bool) (gi : List PV → Int) (lt : Item → Item → Bool) (hw : SWO lt) (hc : CmpS gi lt) (hl : l.length ≤ 1048576) :
    AC Tryz.prog 123 [.own 900000, .pv (vint l.length), .clo cmpD false gb gi] [(900000, rowL 7 cItem l)] (.pv (.tup [])) [(900000, rowL 7 cItem (isortR lt l))] := by
  have sym := fun k a m b hk h1 h2 h3 h4 h5 => ac_sym_n gb gi lt hw hc b k a m b (Nat.sub_le _ _) hk h1 h2 h3 h4 h5
  refine AC.of_awp_gen (T := T) T_ok hm Tryz.call123 Tryz.func123 rfl rfl rfl rfl rfl rfl ?_
  conv => whnf
  refine loop_k (ι := Nat × List Item) [0, 1, 2, 6] [] (fun x => (x.2.length = l.length ∧ x.1 ≤ l.length) ∧ DoneB lt x.2 20 x.1 ∧ srtSeg lt x.2 0 l.length = srtSeg lt l 0 l.length) (fun x => l.length - x.1) (0, l) (fun x => [(7, .pv (vint x.1)), (8, .pv (.val (.int .i64 ((x.1 : Int) + 20))))]) (fun x => [(900000, rowL 7 cItem x.2)]) [] ⟨⟨rfl, Nat.zero_le _⟩, .zero, rfl⟩ ?_ (fun x hk => ?_)
  · (repeat' (first | exact PSub.rfl | exact rfl | exact PSubs.rfl | exact trivial | exact PSub.lit_sb rfl | refine And.intro ?_ ?_))
    all_goals (intro q hq; exact PSubs.rfl)
  obtain ⟨a, cur⟩ := x
  obtain ⟨⟨hcl, han⟩, hd, hs⟩ := hk
  dsimp only at hcl han hd hs ⊢
  have c1 := fun (h : a + 20 ≤ l.length) => ac_slices_insertionSortCmpFunc_Item cur a (a + 20) gb gi lt hw hc (by omega) (by omega) (by omega)
  have c2 := ac_slices_insertionSortCmpFunc_Item cur a l.length gb gi lt hw hc (by omega) (by omega) (by omega)
  rw [show ((a + 20 : Nat) : Int) = (a : Int) + 20 from by omega] at c1
  conv => whnf
  refine ⟨fun h => ?_, fun h => ?_⟩ <;> (try simp only [decide_eq_true_eq, decide_eq_false_iff_not, Bool.not_eq_true', Bool.not_eq_false', Int.toNat_natCast, beq_iff_eq, decide_eq_decide, beq_eq_false_iff_ne, ne_eq, reduceCtorEq] at h) <;> (conv => whnf)
  · repeat (any_goals (first
      | (refine ⟨fun (h : (_ : Bool) = true) => ?_, fun (h : (_ : Bool) = false) => ?_⟩ <;> (try simp only [decide_eq_true_eq, decide_eq_false_iff_not, Bool.not_eq_true', Bool.not_eq_false', Int.toNat_natCast, beq_iff_eq, decide_eq_decide, beq_eq_false_iff_ne, ne_eq, reduceCtorEq] at h) <;> (conv => whnf))
      | (refine .inr (.inr (.inr (.inr ⟨[(900000, 900000)], [], _, _, _, c1 (by omega), rfl, ?_⟩))); conv => whnf)
      | (refine And.intro (by (try simp only [Int.toNat_natCast]); omega) ?_; conv => whnf)
      | (refine And.intro (show (_ : Bool) = true from by kernel_rfl) ?_; conv => whnf)
      | (refine .inl ⟨wrap64 (by omega), ?_⟩; conv => whnf)))
    have hsl := srtSeg_length (lt := lt) (l := cur) (a := a) (b := a + 20) (by omega) (by omega)
    refine ⟨(a + 20, srtSeg lt cur a (a + 20)), [], ⟨⟨by dsimp only; omega, by dsimp only; omega⟩, blk_first hw (by omega) hd, by dsimp only; rw [srtSeg_absorb hw (Nat.zero_le _) (by omega) (by omega) (by omega)]; exact hs⟩, by dsimp only; omega, ?_⟩
    (repeat' (first | exact PSub.rfl | exact rfl | exact PSubs.rfl | exact trivial | exact PSub.lit_sb rfl | refine And.intro ?_ ?_))
    all_goals first | exact PSub.int (by dsimp only; omega) | (intro q hq; exact PSubs.rfl)
  have hr := blk_first_end (n := l.length) hw han (by omega) (show l.length < a + 20 by omega) hd
  have hsl := srtSeg_length (lt := lt) (l := cur) (a := a) (b := l.length) (by omega) (by omega)
  have hs1 : srtSeg lt (srtSeg lt cur a l.length) 0 l.length = srtSeg lt l 0 l.length := by
    rw [srtSeg_absorb hw (Nat.zero_le _) (by omega) (Nat.le_refl _) (by omega)]; exact hs
  repeat (any_goals (first
    | (refine ⟨fun (h : (_ : Bool) = true) => ?_, fun (h : (_ : Bool) = false) => ?_⟩ <;> (try simp only [decide_eq_true_eq, decide_eq_false_iff_not, Bool.not_eq_true', Bool.not_eq_false', Int.toNat_natCast, beq_iff_eq, decide_eq_decide, beq_eq_false_iff_ne, ne_eq, reduceCtorEq] at h) <;> (conv => whnf))
    | (refine .inr (.inr (.inr (.inr ⟨[(900000, 900000)], [], _, _, _, c2, rfl, ?_⟩))); conv => whnf)
    | (refine And.intro (by (try simp only [Int.toNat_natCast]); omega) ?_; conv => whnf)
    | (refine And.intro (show (_ : Bool) = true from by kernel_rfl) ?_; conv => whnf)
    | (refine .inl ⟨wrap64 (by omega), ?_⟩; conv => whnf)))
  clear c1 c2 hd hs
  generalize srtSeg lt cur a l.length = cur1 at *
  refine loop_k (ι := Nat × List Item) [0, 1, 2] [] (fun x => (x.2.length = l.length ∧ 0 < x.1 ∧ x.1 ≤ 2097152) ∧ RestB lt x.2 x.1 l.length 0 ∧ srtSeg lt x.2 0 l.length = srtSeg lt l 0 l.length) (fun x => l.length - x.1) (20, cur1) (fun x => [(6, .pv (vint x.1))]) (fun x => [(900000, rowL 7 cItem x.2)]) [] ⟨⟨by dsimp only; omega, by dsimp only; omega, by dsimp only; omega⟩, hr, hs1⟩ ?_ (fun x hk => ?_)
  · (repeat' (first | exact PSub.rfl | exact rfl | exact PSubs.rfl | exact trivial | exact PSub.lit_sb rfl | refine And.intro ?_ ?_))
    all_goals (intro q hq; exact PSubs.rfl)
  clear hsl hr hs1 hcl han
  obtain ⟨B, cur⟩ := x
  obtain ⟨⟨hcl, hB, hB2⟩, hr, hs⟩ := hk
  dsimp only at hcl hB hB2 hr hs ⊢
  conv => whnf
  refine ⟨fun h => ?_, fun h => ?_⟩ <;> (try simp only [decide_eq_true_eq, decide_eq_false_iff_not, Bool.not_eq_true', Bool.not_eq_false', Int.toNat_natCast, beq_iff_eq, decide_eq_decide, beq_eq_false_iff_ne, ne_eq, reduceCtorEq] at h) <;> (conv => whnf)
  · repeat (any_goals (first
      | (refine ⟨fun (h : (_ : Bool) = true) => ?_, fun (h : (_ : Bool) = false) => ?_⟩ <;> (try simp only [decide_eq_true_eq, decide_eq_false_iff_not, Bool.not_eq_true', Bool.not_eq_false', Int.toNat_natCast, beq_iff_eq, decide_eq_decide, beq_eq_false_iff_ne, ne_eq, reduceCtorEq] at h) <;> (conv => whnf))
      | (refine And.intro (by (try simp only [Int.toNat_natCast]); omega) ?_; conv => whnf)
      | (refine And.intro (show (_ : Bool) = true from by kernel_rfl) ?_; conv => whnf)
      | (refine .inl ⟨wrap64 (by omega), ?_⟩; conv => whnf)))
    refine loop_k (ι := Nat × List Item) [0, 1, 2, 6] [] (fun x => (x.2.length = l.length ∧ x.1 ≤ l.length) ∧ DoneB lt x.2 (2 * B) x.1 ∧ RestB lt x.2 B l.length x.1 ∧ srtSeg lt x.2 0 l.length = srtSeg lt l 0 l.length) (fun x => l.length - x.1) (0, cur) (fun x => [(7, .pv (vint x.1)), (8, .pv (.val (.int .i64 ((x.1 : Int) + 2 * B))))]) (fun x => [(900000, rowL 7 cItem x.2)]) [] ⟨⟨hcl, Nat.zero_le _⟩, .zero, hr, hs⟩ ?_ (fun x hk => ?_)
    · (repeat' (first | exact PSub.rfl | exact rfl | exact PSubs.rfl | exact trivial | exact PSub.lit_sb rfl | refine And.intro ?_ ?_))
      all_goals first | exact PSub.int (by dsimp only; omega) | (intro q hq; exact PSubs.rfl)
    clear hcl hr hs
    obtain ⟨a, cur⟩ := x
    obtain ⟨⟨hcl, han⟩, hd, hr, hs⟩ := hk
    dsimp only at hcl han hd hr hs ⊢
    conv => whnf
    refine ⟨fun h => ?_, fun h => ?_⟩ <;> (try simp only [decide_eq_true_eq, decide_eq_false_iff_not, Bool.not_eq_true', Bool.not_eq_false', Int.toNat_natCast, beq_iff_eq, decide_eq_decide, beq_eq_false_iff_ne, ne_eq, reduceCtorEq] at h) <;> (conv => whnf)
    · obtain ⟨q1, q2, q3, q4⟩ := blk_merge hw hB (by omega) (show a + 2 * B ≤ l.length by omega) hd hr
      have c1 := sym cur a (a + B) (a + 2 * B) (by omega) (by omega) (by omega) (by omega) q1 q2
      rw [show ((a + 2 * B : Nat) : Int) = (a : Int) + 2 * B from by omega, show ((a + B : Nat) : Int) = (a : Int) + B from by omega] at c1
      have hsl := srtSeg_length (lt := lt) (l := cur) (a := a) (b := a + 2 * B) (by omega) (by omega)
      repeat (any_goals (first
        | (refine ⟨fun (h : (_ : Bool) = true) => ?_, fun (h : (_ : Bool) = false) => ?_⟩ <;> (try simp only [decide_eq_true_eq, decide_eq_false_iff_not, Bool.not_eq_true', Bool.not_eq_false', Int.toNat_natCast, beq_iff_eq, decide_eq_decide, beq_eq_false_iff_ne, ne_eq, reduceCtorEq] at h) <;> (conv => whnf))
        | (refine .inr (.inr (.inr (.inr ⟨[(900000, 900000)], [], _, _, _, c1, rfl, ?_⟩))); conv => whnf)
        | (refine And.intro (by (try simp only [Int.toNat_natCast]); omega) ?_; conv => whnf)
        | (refine And.intro (show (_ : Bool) = true from by kernel_rfl) ?_; conv => whnf)
        | (refine .inl ⟨wrap64 (by omega), ?_⟩; conv => whnf)))
      refine ⟨(a + 2 * B, srtSeg lt cur a (a + 2 * B)), [], ⟨⟨by dsimp only; omega, by dsimp only; omega⟩, q3, q4, by dsimp only; rw [srtSeg_absorb hw (Nat.zero_le _) (by omega) (by omega) (by omega)]; exact hs⟩, by dsimp only; omega, ?_⟩
      (repeat' (first | exact PSub.rfl | exact rfl | exact PSubs.rfl | exact trivial | exact PSub.lit_sb rfl | refine And.intro ?_ ?_))
      all_goals first | exact PSub.int (by dsimp only; omega) | (intro q hq; exact PSubs.rfl)
    · have hsl := srtSeg_length (lt := lt) (l := cur) (a := a) (b := l.length) (by omega) (by omega)
      have c1 := fun (h : a + B < l.length) => (sym cur a (a + B) l.length (by omega) (by omega) (by omega) (by omega) (blk_end hw (by omega) (show l.length < a + 2 * B by omega) h hd hr).1 (blk_end hw (by omega) (show l.length < a + 2 * B by omega) h hd hr).2.1)
      rw [show ((a + B : Nat) : Int) = (a : Int) + B from by omega] at c1
      repeat (any_goals (first
        | (refine ⟨fun (h : (_ : Bool) = true) => ?_, fun (h : (_ : Bool) = false) => ?_⟩ <;> (try simp only [decide_eq_true_eq, decide_eq_false_iff_not, Bool.not_eq_true', Bool.not_eq_false', Int.toNat_natCast, beq_iff_eq, decide_eq_decide, beq_eq_false_iff_ne, ne_eq, reduceCtorEq] at h) <;> (conv => whnf))
        | (refine .inr (.inr (.inr (.inr ⟨[(900000, 900000)], [], _, _, _, c1 (by omega), rfl, ?_⟩))); conv => whnf)
        | (refine And.intro (by (try simp only [Int.toNat_natCast]); omega) ?_; conv => whnf)
        | (refine And.intro (show (_ : Bool) = true from by kernel_rfl) ?_; conv => whnf)
        | (refine .inl ⟨wrap64 (by omega), ?_⟩; conv => whnf)))
      · refine ⟨(2 * B, srtSeg lt cur a l.length), [], ⟨⟨by dsimp only; omega, by dsimp only; omega, by dsimp only; omega⟩, (blk_end hw (by omega) (show l.length < a + 2 * B by omega) (by omega) hd hr).2.2, by dsimp only; rw [srtSeg_absorb hw (Nat.zero_le _) (by omega) (by omega) (by omega)]; exact hs⟩, by dsimp only; omega, ?_⟩
        (repeat' (first | exact PSub.rfl | exact rfl | exact PSubs.rfl | exact trivial | exact PSub.lit_sb rfl | refine And.intro ?_ ?_))
        all_goals first | exact PSub.int (by dsimp only; omega) | (intro q hq; exact PSubs.rfl)
      · refine ⟨(2 * B, cur), [], ⟨⟨by dsimp only; omega, by dsimp only; omega, by dsimp only; omega⟩, blk_end1 (by omega) hd hr, hs⟩, by dsimp only; omega, ?_⟩
        (repeat' (first | exact PSub.rfl | exact rfl | exact PSubs.rfl | exact trivial | exact PSub.lit_sb rfl | refine And.intro ?_ ?_))
        all_goals first | exact PSub.int (by dsimp only; omega) | (intro q hq; exact PSubs.rfl)
  · have e : cur = isortR lt l := srt_whole hw hcl (by rw [hcl]; exact hs) (by rw [hcl]; exact hr.whole (by omega))
    rw [← e]
    refine ⟨rfl, [], ?_⟩
    (repeat' (first | exact PSub.rfl | exact rfl | exact PSubs.rfl | exact trivial | exact PSub.lit_sb rfl | refine And.intro ?_ ?_))
    intro q hq; exact PSubs.rfl
theorem ac_slices_SortStableFunc_Item_c (l : List Item) (gb : List PV → Bool) (gi : List PV → Int) (lt : Item → Item → Bool) (hw : SWO lt) (hc : CmpS gi lt) (hl : l.length ≤ 1048576) :
    AC Tryz.prog 91 [.own 900000, .clo cmpD false gb gi] [(900000, rowL 7 cItem l)] (.pv (.tup [])) [(900000, rowL 7 cItem (isortR lt l))] := by
  refine AC.of_awp_gen (T := T) T_ok hm Tryz.call91 Tryz.func91 rfl rfl rfl rfl rfl rfl ?_
  conv => whnf
  repeat (any_goals (first
    | (refine ⟨fun (h : (_ : Bool) = true) => ?_, fun (h : (_ : Bool) = false) => ?_⟩ <;> (try simp only [decide_eq_true_eq, decide_eq_false_iff_not, Bool.not_eq_true', Bool.not_eq_false', Int.toNat_natCast, beq_iff_eq, decide_eq_decide, beq_eq_false_iff_ne, ne_eq, reduceCtorEq] at h) <;> (conv => whnf))
    | (refine .inr (.inr (.inr (.inr ⟨[(900000, 900000)], [], _, _, _, ac_slices_stableCmpFunc_Item l gb gi lt hw hc hl, rfl, ?_⟩))); conv => whnf)
    | (refine And.intro (by (try simp only [Int.toNat_natCast]); omega) ?_; conv => whnf)
    | (refine And.intro (show (_ : Bool) = true from by kernel_rfl) ?_; conv => whnf)
    | (refine .inl ⟨wrap64 (by omega), ?_⟩; conv => whnf)))
  refine ⟨rfl, [], ?_⟩
  (repeat' (first | exact PSub.rfl | exact rfl | exact PSubs.rfl | exact trivial | exact PSub.lit_sb rfl | refine And.intro ?_ ?_))
  intro q hq; exact PSubs.rfl
theorem ac_slices_SortStableFunc_Item (F : Nat) (hcall : ∀ (vals : Array Value) (w : World), (callFunc F vals).run Tryz.prog w = .ok (.enter F vals) w) (gi : List PV → Int) (lt : Item → Item → Bool) (hw : SWO lt) (hc : CmpS gi lt)
    (hF : ∀ x y : Item, AC Tryz.prog F [.pv (.agg (cItem x)), .pv (.agg (cItem y))] [] (.pv (vint (gi [.agg (cItem x), .agg (cItem y)]))) []) (l : List Item) (hl : l.length ≤ 1048576) :
    AC Tryz.prog 91 [.own 900000, .fn F []] [(900000, rowL 7 cItem l)] (.pv (.tup [])) [(900000, rowL 7 cItem (isortR lt l))] := by
  refine AC.with_fn_rows (caps := []) (pre := [.own 900000]) (post := []) (ac_slices_SortStableFunc_Item_c l (fun _ => false) gi lt hw hc hl) hcall rfl rfl rfl rfl rfl ?_
  rintro xs ⟨x, y, rfl⟩
  exact hF x y
end Go.Abs

namespace Go.Abs
open Go.Proofs
set_option maxRecDepth 10000
def vLt (a b : Item) : Bool := decide (a.version < b.version)
theorem vLt_swo : SWO vLt := ⟨fun a b h => by simp only [vLt, decide_eq_true_eq, decide_eq_false_iff_not] at *; omega, fun a b c h k => by simp only [vLt, decide_eq_false_iff_not] at *; omega⟩
def vCmp : List PV → Int
  | [.agg [_, _, _, _, _, _, .val (.int .i64 a)], .agg [_, _, _, _, _, _, .val (.int .i64 b)]] => if a < b then -1 else if a = b then 0 else 1
  | _ => 0
theorem vCmp_item (x y : Item) : vCmp [.agg (cItem x), .agg (cItem y)] = if x.version < y.version then -1 else if x.version = y.version then 0 else 1 := rfl
theorem vCmp_s : CmpS vCmp vLt := fun x y => by
  rw [vCmp_item, vLt]
  (repeat' split) <;> simp_all
theorem ac_shadow_Pending_1 (x y : Item) : AC Tryz.prog 103 [.pv (.agg (cItem x)), .pv (.agg (cItem y))] [] (.pv (vint (vCmp [.agg (cItem x), .agg (cItem y)]))) [] := by
  rw [vCmp_item]
  refine AC.of_awp (T := T) T_ok hm Tryz.call103 Tryz.func103 rfl rfl rfl ?_
  conv => whnf
  repeat (any_goals (first
    | (refine ⟨fun (h : (_ : Bool) = true) => ?_, fun (h : (_ : Bool) = false) => ?_⟩ <;> (try simp only [decide_eq_true_eq, decide_eq_false_iff_not, Bool.not_eq_true', Bool.not_eq_false', Int.toNat_natCast, beq_iff_eq, decide_eq_decide, beq_eq_false_iff_ne, ne_eq, reduceCtorEq] at h) <;> (conv => whnf))
    | (refine And.intro (by (try simp only [Int.toNat_natCast]); omega) ?_; conv => whnf)
    | (refine And.intro (show (_ : Bool) = true from by kernel_rfl) ?_; conv => whnf)
    | (refine .inl ⟨wrap64 (by omega), ?_⟩; conv => whnf)))
  · rw [item_eq] at h
    have e := of_decide_eq_true h
    subst e
    exact PSub.int (by rw [if_neg (Int.lt_irrefl _), if_pos rfl])
  · exact PSub.int (by rw [if_neg (by omega), if_pos h])
  · exact PSub.int (by rw [if_pos h])
  · exact PSub.int (by rw [if_neg h, if_neg (by assumption)])
def penF (s : Shd) (x : Item) : Bool := decide (s.done < x.version)
def penL (s : Shd) : List Item := isortR vLt (s.desired.filter (penF s))
theorem fil_snoc {α : Type} [Inhabited α] (p : α → Bool) {l : List α} {k : Nat} (h : k < l.length) : (l.take (k + 1)).filter p = (l.take k).filter p ++ if p (l.getD k default) = true then [l.getD k default] else [] := by
  rw [take_succ_getD h, List.filter_append]
  congr 1
  by_cases e : p (l.getD k default) = true
  · rw [if_pos e]; simp only [List.filter_cons, List.filter_nil, if_pos e]
  · rw [if_neg e]; simp only [List.filter_cons, List.filter_nil, if_neg e]
theorem fil_length {α : Type} (p : α → Bool) (l : List α) (k : Nat) : ((l.take k).filter p).length ≤ k := Nat.le_trans (List.length_filter_le _ _) (by rw [List.length_take]; omega)
theorem ac_shadow_Pending (s : Shd) (hs : smallSh s) : AC Tryz.prog 57 [.pv (.agg (cShd s))] [] (.pv (roL 7 cItem (penL s))) [] := by
  have h2 : s.desired.length ≤ 1048576 := hs.2
  refine AC.of_awp (T := T) T_ok hm Tryz.call57 Tryz.func57 rfl rfl rfl ?_
  conv => whnf
  refine loop_k (ι := Nat) [1, 7, 8] [1] (fun k => k ≤ s.desired.length ∧ True) (fun k => s.desired.length - k) 0 (fun k => [(3, .own 500), (9, .pv (vint k))]) (fun k => [(500, rowL 7 cItem ((s.desired.take k).filter (penF s)))]) [] ⟨Nat.zero_le _, trivial⟩ ?_ (fun k hk => ?_)
  · (repeat' (first | exact PSub.rfl | exact rfl | exact PSubs.rfl | exact trivial | exact PSub.lit_sb rfl | refine And.intro ?_ ?_))
  obtain ⟨hkn, hinv⟩ := hk
  conv => whnf
  have hfl := fil_length (penF s) s.desired k
  refine ⟨fun h => ?_, fun h => ?_⟩ <;> (try simp only [decide_eq_true_eq, decide_eq_false_iff_not, Bool.not_eq_true', Bool.not_eq_false', Int.toNat_natCast, beq_iff_eq, decide_eq_decide, beq_eq_false_iff_ne, ne_eq, reduceCtorEq] at h) <;> (conv => whnf)
  · have hfs := fil_snoc (penF s) (l := s.desired) (k := k) (by omega)
    repeat (any_goals (first
      | (refine ⟨fun (h : (_ : Bool) = true) => ?_, fun (h : (_ : Bool) = false) => ?_⟩ <;> (try simp only [decide_eq_true_eq, decide_eq_false_iff_not, Bool.not_eq_true', Bool.not_eq_false', Int.toNat_natCast, beq_iff_eq, decide_eq_decide, beq_eq_false_iff_ne, ne_eq, reduceCtorEq] at h) <;> (conv => whnf))
      | (refine And.intro (by (try simp only [Int.toNat_natCast]); omega) ?_; conv => whnf)
      | (refine And.intro (show (_ : Bool) = true from by kernel_rfl) ?_; conv => whnf)
      | (refine .inl ⟨wrap64 (by omega), ?_⟩; conv => whnf)))
    · rw [if_pos (show penF s (s.desired.getD k default) = true from decide_eq_true h)] at hfs
      refine ⟨k + 1, [(500, 21)], ⟨by omega, trivial⟩, by omega, ?_⟩
      rw [hfs]
      (repeat' (first | exact PSub.rfl | exact rfl | exact PSubs.rfl | exact trivial | exact PSub.lit_sb rfl | refine And.intro ?_ ?_))
      · simp [-List.getD_eq_getElem?_getD]
      · refine rows_snocF (fun i hi => by simp only [if_pos hi]; exact PSubs.rfl) (by simp only [if_neg (Nat.lt_irrefl _), Nat.sub_self]; exact PSubs.rfl)
    · rw [if_neg (by simpa [penF] using h), List.append_nil] at hfs
      refine ⟨k + 1, [], ⟨by omega, trivial⟩, by omega, ?_⟩
      rw [hfs]
      (repeat' (first | exact PSub.rfl | exact rfl | exact PSubs.rfl | exact trivial | exact PSub.lit_sb rfl | refine And.intro ?_ ?_))
      all_goals (intro i hi; exact PSubs.rfl)
  · have e : k = s.desired.length := by omega
    subst e
    rw [List.take_length] at *
    have c := ac_slices_SortStableFunc_Item 103 Tryz.call103 vCmp vLt vLt_swo vCmp_s ac_shadow_Pending_1 (s.desired.filter (penF s)) (by omega)
    repeat (any_goals (first
      | (refine ⟨fun (h : (_ : Bool) = true) => ?_, fun (h : (_ : Bool) = false) => ?_⟩ <;> (try simp only [decide_eq_true_eq, decide_eq_false_iff_not, Bool.not_eq_true', Bool.not_eq_false', Int.toNat_natCast, beq_iff_eq, decide_eq_decide, beq_eq_false_iff_ne, ne_eq, reduceCtorEq] at h) <;> (conv => whnf))
      | (refine .inr (.inr (.inr (.inr ⟨[(900000, 500)], [], _, _, _, c, rfl, ?_⟩))); conv => whnf)
      | (refine And.intro (by (try simp only [Int.toNat_natCast]); omega) ?_; conv => whnf)
      | (refine And.intro (show (_ : Bool) = true from by kernel_rfl) ?_; conv => whnf)
      | (refine .inl ⟨wrap64 (by omega), ?_⟩; conv => whnf)))
    exact .rfl
theorem penL_length (s : Shd) : (penL s).length ≤ s.desired.length := by
  unfold penL; rw [isortR_length]; exact List.length_filter_le _ _
theorem ac_shadow_Synced (s : Shd) (hs : smallSh s) : AC Tryz.prog 64 [.pv (.agg (cShd s))] [] (.pv (vbool (decide (penL s = [])))) [] := by
  refine AC.of_awp (T := T) T_ok hm Tryz.call64 Tryz.func64 rfl rfl rfl ?_
  conv => whnf
  repeat (any_goals (first
    | (refine ⟨fun (h : (_ : Bool) = true) => ?_, fun (h : (_ : Bool) = false) => ?_⟩ <;> (try simp only [decide_eq_true_eq, decide_eq_false_iff_not, Bool.not_eq_true', Bool.not_eq_false', Int.toNat_natCast, beq_iff_eq, decide_eq_decide, beq_eq_false_iff_ne, ne_eq, reduceCtorEq] at h) <;> (conv => whnf))
    | (refine .inl ⟨_, ac_shadow_Pending s hs, ?_⟩; conv => whnf)
    | (refine And.intro (by (try simp only [Int.toNat_natCast]); omega) ?_; conv => whnf)
    | (refine And.intro (show (_ : Bool) = true from by kernel_rfl) ?_; conv => whnf)
    | (refine .inl ⟨wrap64 (by omega), ?_⟩; conv => whnf)))
  refine PSub.sb ?_
  rw [Bool.eq_iff_iff]; simp [List.eq_nil_iff_length_eq_zero, -List.length_eq_zero_iff]
end Go.Abs

namespace Go.Abs
open Go.Proofs
set_option maxRecDepth 10000
theorem repR_snoc (H : Hom) (r : List Item) {l : List Item} {k : Nat} (h : k < l.length) : repR H r (l.take (k + 1)) = stepI H (repR H r (l.take k)) (l.getD k default) := by
  unfold repR; rw [take_succ_getD h, List.foldl_append]; rfl
theorem okI_eq (H : Hom) (x : Item) : okI H x = ((findA H x.key).isSome && decide (fitsE ((findA H x.key).getD noAttr) x.value = 0)) := by
  unfold okI
  cases findA H x.key <;> rfl
theorem mine_iff {s : Shd} {m : Msg} : mineB s m = true ↔ m.kind = 1 ∧ m.dev = s.dev ∧ s.epoch ≤ m.epoch := by
  unfold mineB; rw [Bool.and_eq_true, Bool.and_eq_true, decide_eq_true_eq, decide_eq_true_eq, decide_eq_true_eq, and_assoc]
theorem base_small {H : Hom} {s : Shd} {m : Msg} (hs : smallSh s) : (baseS H s m).reported.length ≤ 1048576 := by
  unfold baseS
  split
  · have := unrep_48 (H := H) (dev := s.dev)
    show (unrepL H s.dev).length ≤ _
    omega
  · exact hs.1
theorem base_des {H : Hom} {s : Shd} {m : Msg} : (baseS H s m).desired = s.desired := by unfold baseS; split <;> rfl
set_option maxHeartbeats 4000000 in
theorem ac_shadow_Report (H : Hom) (s : Shd) (m : Msg) (hH : smallH H) (hs : smallSh s) (hmi : smallL m.items) : AC Tryz.prog 54 [.pv (.agg (cHom H)), .pv (.agg (cShd s)), .pv (.agg (cMsg m))] [] (.pv (.tup [.agg (cShd (repS H s m)), roL 3 cKey (repK H s m)])) [] := by
  have hm2 : m.items.length ≤ 1048576 := hmi
  obtain ⟨b, hbd⟩ : ∃ b, b = baseS H s m := ⟨_, rfl⟩
  have hbl : b.reported.length ≤ 1048576 := by rw [hbd]; exact base_small hs
  have hRs : smallL (repR H b.reported m.items) := by unfold smallL; rw [repR_length]; exact hbl
  have hfin : mineB s m = true → repS H s m = { b with reported := repR H b.reported m.items, version := max b.version m.version } ∧ repK H s m = chgL s.reported (repR H b.reported m.items) := fun h => by
    rw [repK, repS, if_pos h, if_pos h, hbd]; exact ⟨rfl, rfl⟩
  have hno : mineB s m ≠ true → repS H s m = s ∧ repK H s m = [] := fun h => by
    rw [repK, repS, if_neg h, if_neg h]; exact ⟨rfl, rfl⟩
  refine AC.of_awp (T := T) T_ok hm Tryz.call54 Tryz.func54 rfl rfl rfl ?_
  conv => whnf
  repeat (any_goals (first
    | (refine ⟨fun (h : (_ : Bool) = true) => ?_, fun (h : (_ : Bool) = false) => ?_⟩ <;> (try simp only [decide_eq_true_eq, decide_eq_false_iff_not, Bool.not_eq_true', Bool.not_eq_false', Int.toNat_natCast, beq_iff_eq, decide_eq_decide, beq_eq_false_iff_ne, ne_eq, reduceCtorEq] at h) <;> (conv => whnf))
    | (refine .inr (.inr (.inr (.inr ⟨[], [(0, 700001), (1, 700002)], _, _, _, ac_shadow_twin_m s hs, rfl, ?_⟩))); conv => whnf)
    | (refine .inr (.inl ⟨_, _, _, ac_shadow_unreported H s.dev hH, ?_⟩); conv => whnf)
    | (refine And.intro (by (try simp only [Int.toNat_natCast]); omega) ?_; conv => whnf)
    | (refine And.intro (show (_ : Bool) = true from by kernel_rfl) ?_; conv => whnf)
    | (refine .inl ⟨wrap64 (by omega), ?_⟩; conv => whnf)))
  iterate 3
    · obtain ⟨e1, e2⟩ := hno (by rw [Ne, mine_iff]; omega)
      rw [e1, e2]
      refine ⟨?_, ?_⟩ <;> (conv => whnf)
      · exact .rfl
      · exact PSub.nil_ro _ _
  · have hmine : mineB s m = true := mine_iff.2 ⟨by assumption, by assumption, by omega⟩
    obtain ⟨f1, f2⟩ := hfin hmine
    have hbe : b = ⟨s.dev, m.epoch, 0, unrepL H s.dev, s.desired, s.want, 0, -1, 0⟩ := by rw [hbd, baseS, if_pos h]
    obtain ⟨rid, hrid⟩ : ∃ r : Nat, r = 44 := ⟨_, rfl⟩
    refine loop_k (ι := Bool × Nat) [3, 4, 5, 6, 8, 52, 53] [3, 4, 5, 6] (fun x => x.2 ≤ m.items.length ∧ (x.1 = true ↔ x.2 < m.items.length)) (fun x => m.items.length - x.2) (decide (0 < m.items.length), 0) (fun x => [(54, .pv (vint x.2))])
      (fun x => match x.1 with
        | true => [(8, .box (mShd b (.own 500) (.own 700002))), (500, rowL 7 cItem (repR H b.reported (m.items.take x.2))), (700002, rowL 7 cItem s.desired)]
        | false => [(8, .pbox [vint b.dev, vint b.epoch, vint b.version, roL 7 cItem (repR H b.reported m.items), roL 7 cItem s.desired, vint b.want, vint b.done, vint b.sent, vint b.heard])]) (if 0 < m.items.length then [(500, rid)] else []) ⟨Nat.zero_le _, by simp⟩ ?_ (fun x hk => ?_)
    · by_cases hz : 0 < m.items.length
      · rw [show decide (0 < m.items.length) = true from decide_eq_true hz, if_pos hz, hbe, hrid]
        dsimp only
        (repeat' (first | exact PSub.rfl | exact rfl | exact PSubs.rfl | exact trivial | exact PSub.lit_sb rfl | refine And.intro ?_ ?_))
        all_goals first | (intro i hi; exact PSubs.rfl) | trace_state
      · have hz2 : m.items = [] := List.eq_nil_of_length_eq_zero (by omega)
        rw [show decide (0 < m.items.length) = false from decide_eq_false hz, if_neg hz, hz2, hbe]
        dsimp only
        (repeat' (first | exact PSub.rfl | exact rfl | exact PSubs.rfl | exact trivial | exact PSub.lit_sb rfl | refine And.intro ?_ ?_))
        all_goals trace_state
    obtain ⟨d, k⟩ := x
    obtain ⟨hkn, hb⟩ := hk
    dsimp only at hkn hb
    cases d with
    | true =>
      have hk : k < m.items.length := hb.1 rfl
      have hsn := repR_snoc H b.reported hk
      generalize hR : repR H b.reported (m.items.take k) = R at *
      have hRl : R.length ≤ 1048576 := by rw [← hR, repR_length]; exact hbl
      have c := ac_shadow_index R (m.items.getD k default).key hRl
      have hok := okI_eq H (m.items.getD k default)
      have hst : stepI H R (m.items.getD k default) = if itemAt R (m.items.getD k default).key < R.length ∧ (R.getD (itemAt R (m.items.getD k default).key) default).version < (m.items.getD k default).version ∧ okI H (m.items.getD k default) = true then R.set (itemAt R (m.items.getD k default).key) (m.items.getD k default) else R := rfl
      by_cases hlt : itemAt R (m.items.getD k default).key < R.length
      · rw [ixI, if_pos hlt] at c
        generalize itemAt R (m.items.getD k default).key = i at *
        conv => whnf
        refine ⟨fun h => ?_, fun h => absurd (of_decide_eq_false h) (by omega)⟩
        conv => whnf
        refine And.intro (by dsimp only; omega) ?_
        conv => whnf
        rw [show (↑(true, k).snd : Int).toNat = k from rfl]
        repeat (any_goals (first
          | (refine ⟨fun (h : (_ : Bool) = true) => ?_, fun (h : (_ : Bool) = false) => ?_⟩ <;> (try simp only [decide_eq_true_eq, decide_eq_false_iff_not, Bool.not_eq_true', Bool.not_eq_false', Int.toNat_natCast, beq_iff_eq, decide_eq_decide, beq_eq_false_iff_ne, ne_eq, reduceCtorEq] at h) <;> (conv => whnf))
          | (refine .inl ⟨_, c, ?_⟩; conv => whnf)
          | (refine .inl ⟨_, ac_device_Find H (m.items.getD k default).key hH, ?_⟩; conv => whnf)
          | (refine .inl ⟨_, ac_value_Fits ((findA H (m.items.getD k default).key).getD noAttr) (m.items.getD k default).value (small_findA hH), ?_⟩; conv => whnf)
          | (refine And.intro (by (try simp only [Int.toNat_natCast]); omega) ?_; conv => whnf)
          | (refine And.intro (show (_ : Bool) = true from by kernel_rfl) ?_; conv => whnf)
          | (refine .inl ⟨wrap64 (by omega), ?_⟩; conv => whnf)))
        · exfalso; omega
        · have hst' : stepI H R (m.items.getD k default) = R := by
            rw [hst, if_neg]
            rintro ⟨a1, a2, a3⟩
            rw [hok, Bool.and_eq_true, decide_eq_true_eq] at a3
            obtain ⟨a4, a5⟩ := a3
            first
              | omega
              | exact absurd a5 (by assumption)
              | exact Bool.noConfusion (a4.symm.trans h)
          rw [hst'] at hsn
          by_cases hlast : k + 1 < m.items.length
          · refine ⟨(true, k + 1), [], ⟨Nat.le_of_lt hlast, ⟨fun _ => hlast, fun _ => rfl⟩⟩, by dsimp only; omega, ?_⟩
            dsimp only
            rw [hsn]
            (repeat' (first | exact PSub.rfl | exact rfl | exact PSubs.rfl | exact trivial | exact PSub.lit_sb rfl | refine And.intro ?_ ?_))
            all_goals (intro i hi; exact PSubs.rfl)
          · have hall : m.items.take (k + 1) = m.items := List.take_of_length_le (by omega)
            rw [hall] at hsn
            refine ⟨(false, k + 1), [], ⟨by dsimp only; omega, ⟨fun h => (by cases h), fun h => absurd h hlast⟩⟩, by dsimp only; omega, ?_⟩
            dsimp only
            rw [hsn]
            (repeat' (first | exact PSub.rfl | exact rfl | exact PSubs.rfl | exact trivial | exact PSub.lit_sb rfl | refine And.intro ?_ ?_))
        · have hst' : stepI H R (m.items.getD k default) = R.set i (m.items.getD k default) := by
            rw [hst, if_pos ⟨hlt, by omega, by rw [hok, Bool.and_eq_true, decide_eq_true_eq]; exact ⟨by assumption, by assumption⟩⟩]
          rw [hst'] at hsn
          have hrow : ∀ q, q < (R.set i (m.items.getD k default)).length → PSubs (updAt (fun q => cItem (R.getD q default)) i 0 (cItem (m.items.getD k default)) q) (cItem ((R.set i (m.items.getD k default)).getD q default)) :=
            rows_set (fun j hj e => by rw [updAt_ne e]; exact PSubs.rfl) (fun hi => by rw [updAt_same]; exact PSubs.rfl)
          by_cases hlast : k + 1 < m.items.length
          · refine ⟨(true, k + 1), [], ⟨Nat.le_of_lt hlast, ⟨fun _ => hlast, fun _ => rfl⟩⟩, by dsimp only; omega, ?_⟩
            dsimp only
            rw [hsn]
            (repeat' (first | exact PSub.rfl | exact rfl | exact PSubs.rfl | exact trivial | exact PSub.lit_sb rfl | refine And.intro ?_ ?_))
            all_goals first | exact hrow | (intro i hi; exact PSubs.rfl) | exact List.length_set | exact List.length_set.symm | trace_state
          · have hall : m.items.take (k + 1) = m.items := List.take_of_length_le (by omega)
            rw [hall] at hsn
            refine ⟨(false, k + 1), [], ⟨by dsimp only; omega, ⟨fun h => (by cases h), fun h => absurd h hlast⟩⟩, by dsimp only; omega, ?_⟩
            dsimp only
            rw [hsn]
            (repeat' (first | exact PSub.rfl | exact rfl | exact PSubs.rfl | exact trivial | exact PSub.lit_sb rfl | refine And.intro ?_ ?_))
            all_goals first | exact PSub.ro List.length_set.symm (fun q hq => hrow q (by rw [List.length_set]; exact hq)) | trace_state
        · have hst' : stepI H R (m.items.getD k default) = R := by
            rw [hst, if_neg]
            rintro ⟨a1, a2, a3⟩
            rw [hok, Bool.and_eq_true, decide_eq_true_eq] at a3
            obtain ⟨a4, a5⟩ := a3
            first
              | omega
              | exact absurd a5 (by assumption)
              | exact Bool.noConfusion (a4.symm.trans h)
          rw [hst'] at hsn
          by_cases hlast : k + 1 < m.items.length
          · refine ⟨(true, k + 1), [], ⟨Nat.le_of_lt hlast, ⟨fun _ => hlast, fun _ => rfl⟩⟩, by dsimp only; omega, ?_⟩
            dsimp only
            rw [hsn]
            (repeat' (first | exact PSub.rfl | exact rfl | exact PSubs.rfl | exact trivial | exact PSub.lit_sb rfl | refine And.intro ?_ ?_))
            all_goals (intro i hi; exact PSubs.rfl)
          · have hall : m.items.take (k + 1) = m.items := List.take_of_length_le (by omega)
            rw [hall] at hsn
            refine ⟨(false, k + 1), [], ⟨by dsimp only; omega, ⟨fun h => (by cases h), fun h => absurd h hlast⟩⟩, by dsimp only; omega, ?_⟩
            dsimp only
            rw [hsn]
            (repeat' (first | exact PSub.rfl | exact rfl | exact PSubs.rfl | exact trivial | exact PSub.lit_sb rfl | refine And.intro ?_ ?_))
        · have hst' : stepI H R (m.items.getD k default) = R := by
            rw [hst, if_neg]
            rintro ⟨a1, a2, a3⟩
            rw [hok, Bool.and_eq_true, decide_eq_true_eq] at a3
            obtain ⟨a4, a5⟩ := a3
            first
              | omega
              | exact absurd a5 (by assumption)
              | exact Bool.noConfusion (a4.symm.trans h)
          rw [hst'] at hsn
          by_cases hlast : k + 1 < m.items.length
          · refine ⟨(true, k + 1), [], ⟨Nat.le_of_lt hlast, ⟨fun _ => hlast, fun _ => rfl⟩⟩, by dsimp only; omega, ?_⟩
            dsimp only
            rw [hsn]
            (repeat' (first | exact PSub.rfl | exact rfl | exact PSubs.rfl | exact trivial | exact PSub.lit_sb rfl | refine And.intro ?_ ?_))
            all_goals (intro i hi; exact PSubs.rfl)
          · have hall : m.items.take (k + 1) = m.items := List.take_of_length_le (by omega)
            rw [hall] at hsn
            refine ⟨(false, k + 1), [], ⟨by dsimp only; omega, ⟨fun h => (by cases h), fun h => absurd h hlast⟩⟩, by dsimp only; omega, ?_⟩
            dsimp only
            rw [hsn]
            (repeat' (first | exact PSub.rfl | exact rfl | exact PSubs.rfl | exact trivial | exact PSub.lit_sb rfl | refine And.intro ?_ ?_))
      · rw [ixI, if_neg hlt] at c
        conv => whnf
        refine ⟨fun h => ?_, fun h => absurd (of_decide_eq_false h) (by omega)⟩
        conv => whnf
        refine And.intro (by dsimp only; omega) ?_
        conv => whnf
        rw [show (↑(true, k).snd : Int).toNat = k from rfl]
        repeat (any_goals (first
          | (refine ⟨fun (h : (_ : Bool) = true) => ?_, fun (h : (_ : Bool) = false) => ?_⟩ <;> (try simp only [decide_eq_true_eq, decide_eq_false_iff_not, Bool.not_eq_true', Bool.not_eq_false', Int.toNat_natCast, beq_iff_eq, decide_eq_decide, beq_eq_false_iff_ne, ne_eq, reduceCtorEq] at h) <;> (conv => whnf))
          | (refine .inl ⟨_, c, ?_⟩; conv => whnf)
          | (refine .inl ⟨_, ac_device_Find H (m.items.getD k default).key hH, ?_⟩; conv => whnf)
          | (refine .inl ⟨_, ac_value_Fits ((findA H (m.items.getD k default).key).getD noAttr) (m.items.getD k default).value (small_findA hH), ?_⟩; conv => whnf)
          | (refine And.intro (by (try simp only [Int.toNat_natCast]); omega) ?_; conv => whnf)
          | (refine And.intro (show (_ : Bool) = true from by kernel_rfl) ?_; conv => whnf)
          | (refine .inl ⟨wrap64 (by omega), ?_⟩; conv => whnf)))
        · have hst' : stepI H R (m.items.getD k default) = R := by
            rw [hst, if_neg]
            rintro ⟨a1, a2, a3⟩
            rw [hok, Bool.and_eq_true, decide_eq_true_eq] at a3
            obtain ⟨a4, a5⟩ := a3
            first
              | omega
              | exact absurd a5 (by assumption)
              | exact Bool.noConfusion (a4.symm.trans h)
          rw [hst'] at hsn
          by_cases hlast : k + 1 < m.items.length
          · refine ⟨(true, k + 1), [], ⟨Nat.le_of_lt hlast, ⟨fun _ => hlast, fun _ => rfl⟩⟩, by dsimp only; omega, ?_⟩
            dsimp only
            rw [hsn]
            (repeat' (first | exact PSub.rfl | exact rfl | exact PSubs.rfl | exact trivial | exact PSub.lit_sb rfl | refine And.intro ?_ ?_))
            all_goals (intro i hi; exact PSubs.rfl)
          · have hall : m.items.take (k + 1) = m.items := List.take_of_length_le (by omega)
            rw [hall] at hsn
            refine ⟨(false, k + 1), [], ⟨by dsimp only; omega, ⟨fun h => (by cases h), fun h => absurd h hlast⟩⟩, by dsimp only; omega, ?_⟩
            dsimp only
            rw [hsn]
            (repeat' (first | exact PSub.rfl | exact rfl | exact PSubs.rfl | exact trivial | exact PSub.lit_sb rfl | refine And.intro ?_ ?_))
        all_goals (exfalso; omega)
    | false =>
      have hk : k = m.items.length := by
        rcases Nat.lt_or_ge k m.items.length with h | h
        · have := hb.2 h; cases this
        · omega
      subst hk
      conv => whnf
      refine ⟨fun h => absurd (of_decide_eq_true h) (by omega), fun h => ?_⟩
      conv => whnf
      repeat (any_goals (first
        | (refine ⟨fun (h : (_ : Bool) = true) => ?_, fun (h : (_ : Bool) = false) => ?_⟩ <;> (try simp only [decide_eq_true_eq, decide_eq_false_iff_not, Bool.not_eq_true', Bool.not_eq_false', Int.toNat_natCast, beq_iff_eq, decide_eq_decide, beq_eq_false_iff_ne, ne_eq, reduceCtorEq] at h) <;> (conv => whnf))
        | (refine .inl ⟨_, ac_device_Changed s.reported (repR H b.reported m.items) hs.1 hRs, ?_⟩; conv => whnf)
        | (refine And.intro (by (try simp only [Int.toNat_natCast]); omega) ?_; conv => whnf)
        | (refine And.intro (show (_ : Bool) = true from by kernel_rfl) ?_; conv => whnf)
        | (refine .inl ⟨wrap64 (by omega), ?_⟩; conv => whnf)))
      rw [f1, f2]
      refine ⟨?_, ?_⟩ <;> (conv => whnf)
      · exact PSub.agg ⟨.rfl, .rfl, PSub.int (by simp only [Int.max_def]; (repeat' split) <;> omega), .rfl, PSub.of_eq (show roL 7 cItem s.desired = roL 7 cItem b.desired by rw [hbd, base_des]), .rfl, .rfl, .rfl, .rfl, trivial⟩
      · exact .rfl
  · have hmine : mineB s m = true := mine_iff.2 ⟨by assumption, by assumption, by omega⟩
    obtain ⟨f1, f2⟩ := hfin hmine
    have hbe : b = s := by rw [hbd, baseS, if_neg h]
    obtain ⟨rid, hrid⟩ : ∃ r : Nat, r = 700001 := ⟨_, rfl⟩
    refine loop_k (ι := Bool × Nat) [3, 4, 5, 6, 8, 52, 53] [3, 4, 5, 6] (fun x => x.2 ≤ m.items.length ∧ (x.1 = true ↔ x.2 < m.items.length)) (fun x => m.items.length - x.2) (decide (0 < m.items.length), 0) (fun x => [(54, .pv (vint x.2))])
      (fun x => match x.1 with
        | true => [(8, .box (mShd b (.own 500) (.own 700002))), (500, rowL 7 cItem (repR H b.reported (m.items.take x.2))), (700002, rowL 7 cItem s.desired)]
        | false => [(8, .pbox [vint b.dev, vint b.epoch, vint b.version, roL 7 cItem (repR H b.reported m.items), roL 7 cItem s.desired, vint b.want, vint b.done, vint b.sent, vint b.heard])]) (if 0 < m.items.length then [(500, rid)] else []) ⟨Nat.zero_le _, by simp⟩ ?_ (fun x hk => ?_)
    · by_cases hz : 0 < m.items.length
      · rw [show decide (0 < m.items.length) = true from decide_eq_true hz, if_pos hz, hbe, hrid]
        dsimp only
        (repeat' (first | exact PSub.rfl | exact rfl | exact PSubs.rfl | exact trivial | exact PSub.lit_sb rfl | refine And.intro ?_ ?_))
        all_goals first | (intro i hi; exact PSubs.rfl) | trace_state
      · have hz2 : m.items = [] := List.eq_nil_of_length_eq_zero (by omega)
        rw [show decide (0 < m.items.length) = false from decide_eq_false hz, if_neg hz, hz2, hbe]
        dsimp only
        (repeat' (first | exact PSub.rfl | exact rfl | exact PSubs.rfl | exact trivial | exact PSub.lit_sb rfl | refine And.intro ?_ ?_))
        all_goals trace_state
    obtain ⟨d, k⟩ := x
    obtain ⟨hkn, hb⟩ := hk
    dsimp only at hkn hb
    cases d with
    | true =>
      have hk : k < m.items.length := hb.1 rfl
      have hsn := repR_snoc H b.reported hk
      generalize hR : repR H b.reported (m.items.take k) = R at *
      have hRl : R.length ≤ 1048576 := by rw [← hR, repR_length]; exact hbl
      have c := ac_shadow_index R (m.items.getD k default).key hRl
      have hok := okI_eq H (m.items.getD k default)
      have hst : stepI H R (m.items.getD k default) = if itemAt R (m.items.getD k default).key < R.length ∧ (R.getD (itemAt R (m.items.getD k default).key) default).version < (m.items.getD k default).version ∧ okI H (m.items.getD k default) = true then R.set (itemAt R (m.items.getD k default).key) (m.items.getD k default) else R := rfl
      by_cases hlt : itemAt R (m.items.getD k default).key < R.length
      · rw [ixI, if_pos hlt] at c
        generalize itemAt R (m.items.getD k default).key = i at *
        conv => whnf
        refine ⟨fun h => ?_, fun h => absurd (of_decide_eq_false h) (by omega)⟩
        conv => whnf
        refine And.intro (by dsimp only; omega) ?_
        conv => whnf
        rw [show (↑(true, k).snd : Int).toNat = k from rfl]
        repeat (any_goals (first
          | (refine ⟨fun (h : (_ : Bool) = true) => ?_, fun (h : (_ : Bool) = false) => ?_⟩ <;> (try simp only [decide_eq_true_eq, decide_eq_false_iff_not, Bool.not_eq_true', Bool.not_eq_false', Int.toNat_natCast, beq_iff_eq, decide_eq_decide, beq_eq_false_iff_ne, ne_eq, reduceCtorEq] at h) <;> (conv => whnf))
          | (refine .inl ⟨_, c, ?_⟩; conv => whnf)
          | (refine .inl ⟨_, ac_device_Find H (m.items.getD k default).key hH, ?_⟩; conv => whnf)
          | (refine .inl ⟨_, ac_value_Fits ((findA H (m.items.getD k default).key).getD noAttr) (m.items.getD k default).value (small_findA hH), ?_⟩; conv => whnf)
          | (refine And.intro (by (try simp only [Int.toNat_natCast]); omega) ?_; conv => whnf)
          | (refine And.intro (show (_ : Bool) = true from by kernel_rfl) ?_; conv => whnf)
          | (refine .inl ⟨wrap64 (by omega), ?_⟩; conv => whnf)))
        · exfalso; omega
        · have hst' : stepI H R (m.items.getD k default) = R := by
            rw [hst, if_neg]
            rintro ⟨a1, a2, a3⟩
            rw [hok, Bool.and_eq_true, decide_eq_true_eq] at a3
            obtain ⟨a4, a5⟩ := a3
            first
              | omega
              | exact absurd a5 (by assumption)
              | exact Bool.noConfusion (a4.symm.trans h)
          rw [hst'] at hsn
          by_cases hlast : k + 1 < m.items.length
          · refine ⟨(true, k + 1), [], ⟨Nat.le_of_lt hlast, ⟨fun _ => hlast, fun _ => rfl⟩⟩, by dsimp only; omega, ?_⟩
            dsimp only
            rw [hsn]
            (repeat' (first | exact PSub.rfl | exact rfl | exact PSubs.rfl | exact trivial | exact PSub.lit_sb rfl | refine And.intro ?_ ?_))
            all_goals (intro i hi; exact PSubs.rfl)
          · have hall : m.items.take (k + 1) = m.items := List.take_of_length_le (by omega)
            rw [hall] at hsn
            refine ⟨(false, k + 1), [], ⟨by dsimp only; omega, ⟨fun h => (by cases h), fun h => absurd h hlast⟩⟩, by dsimp only; omega, ?_⟩
            dsimp only
            rw [hsn]
            (repeat' (first | exact PSub.rfl | exact rfl | exact PSubs.rfl | exact trivial | exact PSub.lit_sb rfl | refine And.intro ?_ ?_))
        · have hst' : stepI H R (m.items.getD k default) = R.set i (m.items.getD k default) := by
            rw [hst, if_pos ⟨hlt, by omega, by rw [hok, Bool.and_eq_true, decide_eq_true_eq]; exact ⟨by assumption, by assumption⟩⟩]
          rw [hst'] at hsn
          have hrow : ∀ q, q < (R.set i (m.items.getD k default)).length → PSubs (updAt (fun q => cItem (R.getD q default)) i 0 (cItem (m.items.getD k default)) q) (cItem ((R.set i (m.items.getD k default)).getD q default)) :=
            rows_set (fun j hj e => by rw [updAt_ne e]; exact PSubs.rfl) (fun hi => by rw [updAt_same]; exact PSubs.rfl)
          by_cases hlast : k + 1 < m.items.length
          · refine ⟨(true, k + 1), [], ⟨Nat.le_of_lt hlast, ⟨fun _ => hlast, fun _ => rfl⟩⟩, by dsimp only; omega, ?_⟩
            dsimp only
            rw [hsn]
            (repeat' (first | exact PSub.rfl | exact rfl | exact PSubs.rfl | exact trivial | exact PSub.lit_sb rfl | refine And.intro ?_ ?_))
            all_goals first | exact hrow | (intro i hi; exact PSubs.rfl) | exact List.length_set | exact List.length_set.symm | trace_state
          · have hall : m.items.take (k + 1) = m.items := List.take_of_length_le (by omega)
            rw [hall] at hsn
            refine ⟨(false, k + 1), [], ⟨by dsimp only; omega, ⟨fun h => (by cases h), fun h => absurd h hlast⟩⟩, by dsimp only; omega, ?_⟩
            dsimp only
            rw [hsn]
            (repeat' (first | exact PSub.rfl | exact rfl | exact PSubs.rfl | exact trivial | exact PSub.lit_sb rfl | refine And.intro ?_ ?_))
            all_goals first | exact PSub.ro List.length_set.symm (fun q hq => hrow q (by rw [List.length_set]; exact hq)) | trace_state
        · have hst' : stepI H R (m.items.getD k default) = R := by
            rw [hst, if_neg]
            rintro ⟨a1, a2, a3⟩
            rw [hok, Bool.and_eq_true, decide_eq_true_eq] at a3
            obtain ⟨a4, a5⟩ := a3
            first
              | omega
              | exact absurd a5 (by assumption)
              | exact Bool.noConfusion (a4.symm.trans h)
          rw [hst'] at hsn
          by_cases hlast : k + 1 < m.items.length
          · refine ⟨(true, k + 1), [], ⟨Nat.le_of_lt hlast, ⟨fun _ => hlast, fun _ => rfl⟩⟩, by dsimp only; omega, ?_⟩
            dsimp only
            rw [hsn]
            (repeat' (first | exact PSub.rfl | exact rfl | exact PSubs.rfl | exact trivial | exact PSub.lit_sb rfl | refine And.intro ?_ ?_))
            all_goals (intro i hi; exact PSubs.rfl)
          · have hall : m.items.take (k + 1) = m.items := List.take_of_length_le (by omega)
            rw [hall] at hsn
            refine ⟨(false, k + 1), [], ⟨by dsimp only; omega, ⟨fun h => (by cases h), fun h => absurd h hlast⟩⟩, by dsimp only; omega, ?_⟩
            dsimp only
            rw [hsn]
            (repeat' (first | exact PSub.rfl | exact rfl | exact PSubs.rfl | exact trivial | exact PSub.lit_sb rfl | refine And.intro ?_ ?_))
        · have hst' : stepI H R (m.items.getD k default) = R := by
            rw [hst, if_neg]
            rintro ⟨a1, a2, a3⟩
            rw [hok, Bool.and_eq_true, decide_eq_true_eq] at a3
            obtain ⟨a4, a5⟩ := a3
            first
              | omega
              | exact absurd a5 (by assumption)
              | exact Bool.noConfusion (a4.symm.trans h)
          rw [hst'] at hsn
          by_cases hlast : k + 1 < m.items.length
          · refine ⟨(true, k + 1), [], ⟨Nat.le_of_lt hlast, ⟨fun _ => hlast, fun _ => rfl⟩⟩, by dsimp only; omega, ?_⟩
            dsimp only
            rw [hsn]
            (repeat' (first | exact PSub.rfl | exact rfl | exact PSubs.rfl | exact trivial | exact PSub.lit_sb rfl | refine And.intro ?_ ?_))
            all_goals (intro i hi; exact PSubs.rfl)
          · have hall : m.items.take (k + 1) = m.items := List.take_of_length_le (by omega)
            rw [hall] at hsn
            refine ⟨(false, k + 1), [], ⟨by dsimp only; omega, ⟨fun h => (by cases h), fun h => absurd h hlast⟩⟩, by dsimp only; omega, ?_⟩
            dsimp only
            rw [hsn]
            (repeat' (first | exact PSub.rfl | exact rfl | exact PSubs.rfl | exact trivial | exact PSub.lit_sb rfl | refine And.intro ?_ ?_))
      · rw [ixI, if_neg hlt] at c
        conv => whnf
        refine ⟨fun h => ?_, fun h => absurd (of_decide_eq_false h) (by omega)⟩
        conv => whnf
        refine And.intro (by dsimp only; omega) ?_
        conv => whnf
        rw [show (↑(true, k).snd : Int).toNat = k from rfl]
        repeat (any_goals (first
          | (refine ⟨fun (h : (_ : Bool) = true) => ?_, fun (h : (_ : Bool) = false) => ?_⟩ <;> (try simp only [decide_eq_true_eq, decide_eq_false_iff_not, Bool.not_eq_true', Bool.not_eq_false', Int.toNat_natCast, beq_iff_eq, decide_eq_decide, beq_eq_false_iff_ne, ne_eq, reduceCtorEq] at h) <;> (conv => whnf))
          | (refine .inl ⟨_, c, ?_⟩; conv => whnf)
          | (refine .inl ⟨_, ac_device_Find H (m.items.getD k default).key hH, ?_⟩; conv => whnf)
          | (refine .inl ⟨_, ac_value_Fits ((findA H (m.items.getD k default).key).getD noAttr) (m.items.getD k default).value (small_findA hH), ?_⟩; conv => whnf)
          | (refine And.intro (by (try simp only [Int.toNat_natCast]); omega) ?_; conv => whnf)
          | (refine And.intro (show (_ : Bool) = true from by kernel_rfl) ?_; conv => whnf)
          | (refine .inl ⟨wrap64 (by omega), ?_⟩; conv => whnf)))
        · have hst' : stepI H R (m.items.getD k default) = R := by
            rw [hst, if_neg]
            rintro ⟨a1, a2, a3⟩
            rw [hok, Bool.and_eq_true, decide_eq_true_eq] at a3
            obtain ⟨a4, a5⟩ := a3
            first
              | omega
              | exact absurd a5 (by assumption)
              | exact Bool.noConfusion (a4.symm.trans h)
          rw [hst'] at hsn
          by_cases hlast : k + 1 < m.items.length
          · refine ⟨(true, k + 1), [], ⟨Nat.le_of_lt hlast, ⟨fun _ => hlast, fun _ => rfl⟩⟩, by dsimp only; omega, ?_⟩
            dsimp only
            rw [hsn]
            (repeat' (first | exact PSub.rfl | exact rfl | exact PSubs.rfl | exact trivial | exact PSub.lit_sb rfl | refine And.intro ?_ ?_))
            all_goals (intro i hi; exact PSubs.rfl)
          · have hall : m.items.take (k + 1) = m.items := List.take_of_length_le (by omega)
            rw [hall] at hsn
            refine ⟨(false, k + 1), [], ⟨by dsimp only; omega, ⟨fun h => (by cases h), fun h => absurd h hlast⟩⟩, by dsimp only; omega, ?_⟩
            dsimp only
            rw [hsn]
            (repeat' (first | exact PSub.rfl | exact rfl | exact PSubs.rfl | exact trivial | exact PSub.lit_sb rfl | refine And.intro ?_ ?_))
        all_goals (exfalso; omega)
    | false =>
      have hk : k = m.items.length := by
        rcases Nat.lt_or_ge k m.items.length with h | h
        · have := hb.2 h; cases this
        · omega
      subst hk
      conv => whnf
      refine ⟨fun h => absurd (of_decide_eq_true h) (by omega), fun h => ?_⟩
      conv => whnf
      repeat (any_goals (first
        | (refine ⟨fun (h : (_ : Bool) = true) => ?_, fun (h : (_ : Bool) = false) => ?_⟩ <;> (try simp only [decide_eq_true_eq, decide_eq_false_iff_not, Bool.not_eq_true', Bool.not_eq_false', Int.toNat_natCast, beq_iff_eq, decide_eq_decide, beq_eq_false_iff_ne, ne_eq, reduceCtorEq] at h) <;> (conv => whnf))
        | (refine .inl ⟨_, ac_device_Changed s.reported (repR H b.reported m.items) hs.1 hRs, ?_⟩; conv => whnf)
        | (refine And.intro (by (try simp only [Int.toNat_natCast]); omega) ?_; conv => whnf)
        | (refine And.intro (show (_ : Bool) = true from by kernel_rfl) ?_; conv => whnf)
        | (refine .inl ⟨wrap64 (by omega), ?_⟩; conv => whnf)))
      rw [f1, f2]
      refine ⟨?_, ?_⟩ <;> (conv => whnf)
      · exact PSub.agg ⟨.rfl, .rfl, PSub.int (by simp only [Int.max_def]; (repeat' split) <;> omega), .rfl, PSub.of_eq (show roL 7 cItem s.desired = roL 7 cItem b.desired by rw [hbd, base_des]), .rfl, .rfl, .rfl, .rfl, trivial⟩
      · exact .rfl
end Go.Abs

namespace Go.Abs
open Go.Proofs
set_option maxRecDepth 10000
theorem mine_iff' {s : Shd} {m : Msg} : mineB s m = true ↔ m.kind = 1 ∧ m.dev = s.dev ∧ s.epoch ≤ m.epoch := by
  unfold mineB; simp only [Bool.and_eq_true, decide_eq_true_eq, and_assoc]
theorem base_dev {H : Hom} {s : Shd} {m : Msg} : (baseS H s m).dev = s.dev := by unfold baseS; split <;> rfl
theorem base_epoch {H : Hom} {s : Shd} {m : Msg} (h : s.epoch ≤ m.epoch) : (baseS H s m).epoch = m.epoch := by
  unfold baseS; split
  · rfl
  · show s.epoch = m.epoch; omega
theorem base_same {H : Hom} {s : Shd} {m : Msg} (h : s.epoch = m.epoch) : baseS H s m = s := by unfold baseS; rw [if_neg (by omega)]
theorem rep_mine {H : Hom} {s : Shd} {m : Msg} (h : mineB s m = true) : repS H s m = { baseS H s m with reported := repR H (baseS H s m).reported m.items, version := max (baseS H s m).version m.version } := by rw [repS, if_pos h]
theorem rep_not {H : Hom} {s : Shd} {m : Msg} (h : ¬ mineB s m = true) : repS H s m = s := by rw [repS, if_neg h]
theorem rep_dev {H : Hom} {s : Shd} {m : Msg} : (repS H s m).dev = s.dev := by
  by_cases h : mineB s m = true
  · rw [rep_mine h]; exact base_dev
  · rw [rep_not h]
theorem rep_epoch {H : Hom} {s : Shd} {m : Msg} (h : mineB s m = true) : (repS H s m).epoch = m.epoch := by
  rw [rep_mine h]; exact base_epoch (mine_iff'.1 h).2.2
theorem mem_insR {α : Type} (lt : α → α → Bool) (l : List α) (x y : α) : y ∈ insR lt l x ↔ y = x ∨ y ∈ l := by
  obtain ⟨p, q, h1, h2, _, _⟩ := insR_split (lt := lt) l x
  rw [h2, h1]
  simp only [List.mem_append, List.mem_cons]
  constructor
  · rintro (h | h | h)
    · exact .inr (.inl h)
    · exact .inl h
    · exact .inr (.inr h)
  · rintro (h | h | h)
    · exact .inr (.inl h)
    · exact .inl h
    · exact .inr (.inr h)
theorem mem_foldR {α : Type} (lt : α → α → Bool) (y : α) : ∀ (l a : List α), y ∈ l.foldl (insR lt) a ↔ y ∈ l ∨ y ∈ a
  | [], a => by simp
  | x :: l, a => by
    rw [List.foldl_cons, mem_foldR lt y l, mem_insR, List.mem_cons]
    constructor
    · rintro (h | h | h)
      · exact .inl (.inr h)
      · exact .inl (.inl h)
      · exact .inr h
    · rintro ((h | h) | h)
      · exact .inr (.inl h)
      · exact .inl h
      · exact .inr (.inr h)
theorem mem_isortR {α : Type} (lt : α → α → Bool) (l : List α) (y : α) : y ∈ isortR lt l ↔ y ∈ l := by
  unfold isortR; rw [mem_foldR]; simp
theorem mem_pen {s : Shd} {x : Item} : x ∈ penL s ↔ x ∈ s.desired ∧ s.done < x.version := by
  unfold penL penF
  rw [mem_isortR, List.mem_filter, decide_eq_true_eq]
theorem itemAt_lt {l : List Item} {x : Item} (h : x ∈ l) : itemAt l x.key < l.length := by
  rcases firstI_cases (n := l.length) (p := fun i => decide ((l.getD i default).key = x.key)) with ⟨h1, _⟩ | ⟨_, h2⟩
  · exact h1
  · exfalso
    obtain ⟨i, hi, e⟩ := List.getElem_of_mem h
    have := h2 i hi
    simp [List.getD, hi, e] at this
theorem getD_mem {l : List Item} {i : Nat} (h : i < l.length) : l.getD i default ∈ l := by simp [List.getD, h]
end Go.Abs

namespace Go.Abs
open Go.Proofs
variable [Globals]
structure Agt where
  dev : Int
  epoch : Int
  acked : Int
  applied : Int
  sent : Int
  items : List Item
  deriving Inhabited, DecidableEq
def cAgt (a : Agt) : List PV := [vint a.dev, vint a.epoch, vint a.acked, vint a.applied, vint a.sent, roL 7 cItem a.items]
instance msgDec : DecidableEq Msg := fun a b => decidable_of_iff (a.kind = b.kind ∧ a.dev = b.dev ∧ a.epoch = b.epoch ∧ a.version = b.version ∧ a.items = b.items ∧ a.cluster = b.cluster ∧ a.name = b.name ∧ a.data = b.data) (by cases a; cases b; simp)
def noAgt : Agt := ⟨0, 0, 0, 0, 0, []⟩
def noMsg : Msg := ⟨0, 0, 0, 0, [], ⟨#[]⟩, ⟨#[]⟩, ⟨#[]⟩⟩
def tickI (n : Int) : Int := max 0 (min n 1099511627776)
def dueB (sent now : Int) : Bool := decide (sent < 0) || (decide (sent ≤ now) && decide (10 ≤ now - sent))
def aboveL (l : List Item) (n : Int) : List Item := l.filter fun x => decide (n < x.version)
def oldLt (a b : Item) : Bool := decide (a.version < b.version) || (decide (a.version = b.version) && keyLess a.key b.key)
def lowLt (a b : Item) : Bool := keyLess a.key b.key || (decide (a.key = b.key) && decide (a.version < b.version))
def sortV (l : List Item) : List Item := isortR oldLt l
def sortLow (l : List Item) : List Item := isortR lowLt l
def lastV (l : List Item) : Int := (l.getD (l.length - 1) default).version
def batchM (kind dev epoch : Int) (l : List Item) : Msg := ⟨kind, dev, epoch, lastV (l.take 7), sortLow (l.take 7), ⟨#[]⟩, ⟨#[]⟩, ⟨#[]⟩⟩
def newA (H : Hom) (dev epoch : Int) : Agt := if findB H dev = true then ⟨dev, tickI epoch, 0, 0, -1, initL H dev⟩ else noAgt
def locE (H : Hom) (a : Agt) (k : Key) (v : Val) : Int := if k.dev ≠ a.dev then 8 else setE H a.items k v false
def locA (H : Hom) (a : Agt) (k : Key) (v : Val) : Agt :=
  if locE H a k v ≠ 0 then noAgt else { a with items := setL H a.items k v false, sent := if setL H a.items k v false = a.items then a.sent else -1 }
def outL (a : Agt) : List Item := sortV (aboveL a.items a.acked)
def outB (a : Agt) (now : Int) : Bool := decide (outL a ≠ []) && dueB a.sent (tickI now)
def outA (a : Agt) (now : Int) : Agt := if outB a now = true then { a with sent := tickI now } else a
def outM (a : Agt) (now : Int) : Msg := if outB a now = true then batchM 1 a.dev a.epoch (outL a) else noMsg
def greatI : List Item → Int
  | [] => 0
  | x :: l => l.foldl (fun n y => max n y.version) x.version
def confA (a : Agt) (m : Msg) : Agt :=
  if m.epoch = a.epoch ∧ m.version ≠ 0 then { a with acked := max a.acked (min m.version (greatI a.items)), sent := -1 }
  else if m.epoch ≤ a.epoch ∧ aboveL a.items a.acked = [] then { a with acked := 0, sent := -1 } else a
def wrI (H : Hom) (l : List Item) (x : Item) : List Item := if setE H l x.key x.value true = 0 then setL H l x.key x.value true else l
def wrL (H : Hom) (l ws : List Item) : List Item := ws.foldl (wrI H) l
def takB (a : Agt) (m : Msg) : Bool := decide (m.dev = a.dev) && decide (m.kind = 3) && decide (m.epoch = a.epoch)
def takL (H : Hom) (a : Agt) (m : Msg) : List Item := wrL H a.items (sortV (aboveL m.items a.applied))
def takA (H : Hom) (a : Agt) (m : Msg) : Agt :=
  if m.dev = a.dev ∧ m.kind = 2 then confA a m
  else if takB a m = true then { a with items := takL H a m, applied := max a.applied m.version, sent := if takL H a m = a.items then a.sent else -1 } else a
def takM (a : Agt) (m : Msg) : Msg := if takB a m = true then ⟨4, m.dev, m.epoch, m.version, [], ⟨#[]⟩, ⟨#[]⟩, ⟨#[]⟩⟩ else noMsg
def psL (s : Shd) : List Item := sortV (penL s)
def psB (s : Shd) (now : Int) : Bool := decide (penL s ≠ []) && dueB s.sent (tickI now)
def psS (s : Shd) (now : Int) : Shd := if psB s now = true then { s with sent := tickI now } else s
def psM (s : Shd) (now : Int) : Msg := if psB s now = true then batchM 3 s.dev s.epoch (psL s) else noMsg
def givB (s : Shd) (m : Msg) : Bool := decide (m.dev = s.dev) && decide (m.kind = 1) && decide (s.epoch ≤ m.epoch)
def givS (H : Hom) (s : Shd) (m : Msg) : Shd :=
  if givB s m = true then repS H s m else if m.dev = s.dev ∧ m.kind = 4 ∧ m.epoch = s.epoch then { donS s m.epoch m.version with sent := -1 } else s
def givK (H : Hom) (s : Shd) (m : Msg) : List Key := if givB s m = true then repK H s m else []
def givM (s : Shd) (m : Msg) : Msg := if givB s m = true then ⟨2, m.dev, m.epoch, m.version, [], ⟨#[]⟩, ⟨#[]⟩, ⟨#[]⟩⟩ else noMsg
def eqlB (s : Shd) (a : Agt) : Bool :=
  decide (s.dev = a.dev) && decide (s.epoch = a.epoch) && decide (s.reported.length = a.items.length) && decide (penL s = []) &&
  decide (∀ i, i < a.items.length → (s.reported.getD i default).key = (a.items.getD i default).key ∧ (s.reported.getD i default).value = (a.items.getD i default).value)
theorem keyLess_swo : SWO keyLess where
  asymm a b h := keyLess_asymm h
  trans a b c h1 h2 := by
    cases h : keyLess a c with
    | false => rfl
    | true =>
      by_cases e : a = b
      · subst e; rw [h] at h2; cases h2
      · rcases keyLess_total e with h3 | h3
        · rw [h3] at h1; cases h1
        · have := keyLess_trans h3 h; rw [this] at h2; cases h2
theorem keyLess_eq {a b : Key} (h1 : keyLess a b = false) (h2 : keyLess b a = false) : a = b := by
  by_cases e : a = b
  · exact e
  · rcases keyLess_total e with h | h
    · rw [h] at h1; cases h1
    · rw [h] at h2; cases h2
theorem oldLt_false {a b : Item} : oldLt a b = false ↔ b.version < a.version ∨ (a.version = b.version ∧ keyLess a.key b.key = false) := by
  unfold oldLt
  rw [Bool.or_eq_false_iff, decide_eq_false_iff_not]
  by_cases h1 : a.version < b.version
  · constructor
    · intro h; exact absurd h1 h.1
    · intro h; omega
  · by_cases h2 : a.version = b.version
    · rw [decide_eq_true h2, Bool.true_and]
      constructor
      · intro h; exact .inr ⟨h2, h.2⟩
      · rintro (h | h)
        · omega
        · exact ⟨h1, h.2⟩
    · rw [decide_eq_false h2, Bool.false_and]
      constructor
      · intro _; left; omega
      · intro _; exact ⟨h1, rfl⟩
theorem oldLt_true {a b : Item} : oldLt a b = true ↔ a.version < b.version ∨ (a.version = b.version ∧ keyLess a.key b.key = true) := by
  unfold oldLt
  rw [Bool.or_eq_true, decide_eq_true_eq, Bool.and_eq_true, decide_eq_true_eq]
theorem oldLt_swo : SWO oldLt where
  asymm a b h := by
    rw [oldLt_true] at h
    rw [oldLt_false]
    rcases h with h | h
    · exact .inl h
    · exact .inr ⟨h.1.symm, keyLess_asymm h.2⟩
  trans a b c h1 h2 := by
    rw [oldLt_false] at *
    rcases h1 with h1 | h1 <;> rcases h2 with h2 | h2
    · left; omega
    · left; omega
    · left; omega
    · exact .inr ⟨by omega, keyLess_swo.trans _ _ _ h1.2 h2.2⟩
theorem lowLt_true {a b : Item} : lowLt a b = true ↔ keyLess a.key b.key = true ∨ (a.key = b.key ∧ a.version < b.version) := by
  unfold lowLt
  rw [Bool.or_eq_true, Bool.and_eq_true, decide_eq_true_eq, decide_eq_true_eq]
theorem lowLt_false {a b : Item} : lowLt a b = false ↔ keyLess b.key a.key = true ∨ (a.key = b.key ∧ b.version ≤ a.version) := by
  unfold lowLt
  by_cases e : a.key = b.key
  · rw [e, keyLess_irrefl, Bool.false_or, decide_eq_true rfl, Bool.true_and, decide_eq_false_iff_not]
    constructor
    · intro h; exact .inr ⟨rfl, by omega⟩
    · rintro (h | h)
      · cases h
      · omega
  · rw [decide_eq_false e, Bool.false_and, Bool.or_false]
    constructor
    · intro h
      rcases keyLess_total e with h2 | h2
      · rw [h2] at h; cases h
      · exact .inl h2
    · rintro (h | h)
      · exact keyLess_asymm h
      · exact absurd h.1 e
theorem lowLt_swo : SWO lowLt where
  asymm a b h := by
    rw [lowLt_true] at h
    rw [lowLt_false]
    rcases h with h | h
    · exact .inl h
    · exact .inr ⟨h.1.symm, by omega⟩
  trans a b c h1 h2 := by
    rw [lowLt_false] at *
    rcases h1 with h1 | h1 <;> rcases h2 with h2 | h2
    · exact .inl (keyLess_trans h2 h1)
    · left; rw [← h2.1]; exact h1
    · left; rw [h1.1]; exact h2
    · exact .inr ⟨h1.1.trans h2.1, by omega⟩
theorem sortV_length (l : List Item) : (sortV l).length = l.length := isortR_length l
theorem sortLow_length (l : List Item) : (sortLow l).length = l.length := isortR_length l
theorem mem_sortV {l : List Item} {x : Item} : x ∈ sortV l ↔ x ∈ l := mem_isortR _ _ _
theorem mem_sortLow {l : List Item} {x : Item} : x ∈ sortLow l ↔ x ∈ l := mem_isortR _ _ _
theorem sortV_srt (l : List Item) : SrtO oldLt (sortV l) := (isortR_stb oldLt_swo l).1
theorem above_length (l : List Item) (n : Int) : (aboveL l n).length ≤ l.length := List.length_filter_le _ _
theorem mem_above {l : List Item} {n : Int} {x : Item} : x ∈ aboveL l n ↔ x ∈ l ∧ n < x.version := by unfold aboveL; rw [List.mem_filter, decide_eq_true_eq]
end Go.Abs

namespace Go.Abs
open Go.Proofs
variable [Globals]
structure GoodL (H : Hom) (d N : Int) (l : List Item) : Prop where
  keys : l.map Item.key = keysL H d
  fits : ∀ x ∈ l, okI H x = true
  pos : ∀ x ∈ l, 1 ≤ x.version
  top : ∀ x ∈ l, x.version ≤ N
  dist : ∀ x ∈ l, ∀ y ∈ l, x.version = y.version → x = y
structure Grow (l l' : List Item) : Prop where
  old : ∀ x ∈ l', x ∈ l ∨ ∀ y ∈ l, y.version < x.version
  new : ∀ x ∈ l, ∃ y ∈ l', y.key = x.key ∧ (y = x ∨ x.version < y.version)
theorem Grow.refl (l : List Item) : Grow l l := ⟨fun _ h => .inl h, fun x h => ⟨x, h, rfl, .inl rfl⟩⟩
theorem Grow.trans {a b c : List Item} (h : Grow a b) (k : Grow b c) : Grow a c where
  old x hx := by
    rcases k.old x hx with h1 | h1
    · exact h.old x h1
    · right
      intro y hy
      obtain ⟨z, hz, _, h2⟩ := h.new y hy
      have := h1 z hz
      rcases h2 with rfl | h2
      · exact this
      · omega
  new x hx := by
    obtain ⟨y, hy, e1, h1⟩ := h.new x hx
    obtain ⟨z, hz, e2, h2⟩ := k.new y hy
    refine ⟨z, hz, e2.trans e1, ?_⟩
    rcases h1 with rfl | h1 <;> rcases h2 with rfl | h2
    · exact .inl rfl
    · exact .inr h2
    · exact .inr h1
    · right; omega
def Reach (l : List Item) (v : Int) : Prop := ∃ x ∈ l, v ≤ x.version
theorem Grow.reach {l l' : List Item} (h : Grow l l') {v : Int} (hv : Reach l v) : Reach l' v := by
  obtain ⟨x, hx, h1⟩ := hv
  obtain ⟨y, hy, _, h2⟩ := h.new x hx
  refine ⟨y, hy, ?_⟩
  rcases h2 with rfl | h2
  · exact h1
  · omega
theorem Grow.low {l l' : List Item} (h : Grow l l') {v : Int} (hv : Reach l v) {x : Item} (hx : x ∈ l') (hl : x.version ≤ v) : x ∈ l := by
  rcases h.old x hx with h1 | h1
  · exact h1
  · obtain ⟨y, hy, h2⟩ := hv
    have := h1 y hy; omega
def Past (l : List Item) (y : Item) : Prop := ∃ x ∈ l, x.key = y.key ∧ y.version ≤ x.version ∧ (y.version = x.version → y = x)
theorem Grow.past {l l' : List Item} (h : Grow l l') {y : Item} (hp : Past l y) : Past l' y := by
  obtain ⟨x, hx, e1, h1, h2⟩ := hp
  obtain ⟨z, hz, e2, h3⟩ := h.new x hx
  rcases h3 with rfl | h3
  · exact ⟨z, hz, e1, h1, h2⟩
  · exact ⟨z, hz, e2.trans e1, by omega, fun _ => by omega⟩
theorem past_self {l : List Item} {x : Item} (h : x ∈ l) : Past l x := ⟨x, h, rfl, Int.le_refl _, fun _ => rfl⟩
theorem maxV_ge {l : List Item} {dev : Int} : ∀ {k i : Nat}, i < k → (l.getD i default).key.dev = dev → (l.getD i default).version ≤ maxV l dev k
  | k + 1, i, hi, h => by
    rw [maxV]
    by_cases e : i = k
    · subst e; rw [if_pos h]; omega
    · have := maxV_ge (l := l) (dev := dev) (k := k) (i := i) (by omega) h
      split <;> omega
theorem maxV_le {l : List Item} {dev N : Int} (h0 : 0 ≤ N) (h : ∀ i, i < l.length → (l.getD i default).version ≤ N) : ∀ {k : Nat}, k ≤ l.length → maxV l dev k ≤ N
  | 0, _ => h0
  | k + 1, hk => by
    have h1 := maxV_le (dev := dev) h0 h (k := k) (by omega)
    have h2 := h k (by omega)
    rw [maxV]; split <;> omega
theorem keys_dev {H : Hom} {d : Int} {k : Key} (h : k ∈ keysL H d) : k.dev = d := by
  unfold keysL at h
  rw [List.mem_flatMap] at h
  obtain ⟨s, _, h⟩ := h
  unfold keysOf1 at h
  rw [List.mem_map] at h
  obtain ⟨a, _, rfl⟩ := h
  rfl
theorem GoodL.key_mem {H : Hom} {d N : Int} {l : List Item} (h : GoodL H d N l) {x : Item} (hx : x ∈ l) : x.key ∈ keysL H d := by
  rw [← h.keys]; exact List.mem_map.2 ⟨x, hx, rfl⟩
theorem GoodL.next {H : Hom} {d N : Int} {l : List Item} (h : GoodL H d N l) (hN0 : 0 ≤ N) (hN : N < 1099511627776) : (∀ x ∈ l, x.version < nextV l d) ∧ 1 ≤ nextV l d ∧ nextV l d ≤ N + 1 := by
  have hm := maxV_le (l := l) (dev := d) hN0 (fun i hi => h.top _ (getD_mem hi)) (Nat.le_refl l.length)
  have h0 := @maxV_nonneg l d l.length
  unfold nextV
  refine ⟨fun x hx => ?_, by omega, by omega⟩
  obtain ⟨i, hi, rfl⟩ := List.getElem_of_mem hx
  have hg : l.getD i default = l[i] := by simp [List.getD, hi]
  have := maxV_ge (l := l) (dev := d) hi (by rw [hg]; exact keys_dev (h.key_mem (List.getElem_mem hi)))
  have := h.top _ (List.getElem_mem hi)
  rw [hg] at *
  omega
theorem okI_set {H : Hom} {l : List Item} {k : Key} {v : Val} {w : Bool} (h : setE H l k v w = 0) (n : Int) : itemAt l k < l.length ∧ okI H ⟨k, v, n⟩ = true := by
  unfold setE at h
  split at h
  · omega
  split at h
  · cases h
  rename_i hs
  split at h
  · cases h
  rename_i hi
  split at h
  · cases h
  refine ⟨(ixI_nonneg hi).1, ?_⟩
  unfold okI
  cases hf : findA H k with
  | none => rw [hf] at hs; exact absurd rfl hs
  | some a =>
    rw [hf] at h
    exact decide_eq_true h
theorem GoodL.put {H : Hom} {d N : Int} {l : List Item} (h : GoodL H d N l) (hN0 : 0 ≤ N) (hN : N < 1099511627776) {k : Key} {v : Val} {w : Bool} (he : setE H l k v w = 0) : GoodL H d (N + 1) (setL H l k v w) ∧ Grow l (setL H l k v w) := by
  obtain ⟨hi, hok⟩ := okI_set he (nextV l d)
  have hk := itemAt_keyS hi
  obtain ⟨n1, n2, n3⟩ := h.next hN0 hN
  rw [setL, if_pos he, putL]
  generalize itemAt l k = i at *
  have hgm := getD_mem hi
  have hd : (l.getD i default).key.dev = d := keys_dev (h.key_mem hgm)
  split
  · rw [hd, hk]
    have hmem : ∀ x ∈ l.set i ⟨k, v, nextV l d⟩, x = ⟨k, v, nextV l d⟩ ∨ x ∈ l := fun x hx => by
      rcases List.mem_or_eq_of_mem_set hx with h1 | h1
      · exact .inr h1
      · exact .inl h1
    have hin : (⟨k, v, nextV l d⟩ : Item) ∈ l.set i ⟨k, v, nextV l d⟩ := List.mem_set hi _
    refine ⟨⟨?_, ?_, ?_, ?_, ?_⟩, ?_, ?_⟩
    · rw [set_keys hi hk]; exact h.keys
    · intro x hx
      rcases hmem x hx with rfl | h1
      · exact hok
      · exact h.fits x h1
    · intro x hx
      rcases hmem x hx with rfl | h1
      · exact n2
      · exact h.pos x h1
    · intro x hx
      rcases hmem x hx with rfl | h1
      · exact n3
      · have := h.top x h1; omega
    · intro x hx y hy e
      rcases hmem x hx with rfl | h1 <;> rcases hmem y hy with rfl | h2
      · rfl
      · have := n1 y h2; simp only at e; omega
      · have := n1 x h1; simp only at e; omega
      · exact h.dist x h1 y h2 e
    · intro x hx
      rcases hmem x hx with rfl | h1
      · exact .inr n1
      · exact .inl h1
    · intro x hx
      by_cases e : x = l.getD i default
      · refine ⟨_, hin, ?_, .inr (n1 x hx)⟩
        rw [e]; exact hk.symm
      · refine ⟨x, ?_, rfl, .inl rfl⟩
        obtain ⟨j, hj, rfl⟩ := List.getElem_of_mem hx
        have hji : i ≠ j := by
          rintro rfl
          apply e; simp [List.getD, hi]
        have : (l.set i ⟨k, v, nextV l d⟩)[j]'(by rw [List.length_set]; exact hj) = l[j] := List.getElem_set_ne hji _
        rw [← this]; exact List.getElem_mem _
  · exact ⟨⟨h.keys, h.fits, h.pos, fun x hx => by have := h.top x hx; omega, h.dist⟩, Grow.refl l⟩
theorem GoodL.weak {H : Hom} {d N M : Int} {l : List Item} (h : GoodL H d N l) (hNM : N ≤ M) : GoodL H d M l := ⟨h.keys, h.fits, h.pos, fun x hx => Int.le_trans (h.top x hx) hNM, h.dist⟩
theorem GoodL.writes {H : Hom} {d : Int} : ∀ (ws : List Item) {N : Int} {l : List Item}, GoodL H d N l → 0 ≤ N → N + ws.length < 1099511627776 → GoodL H d (N + ws.length) (wrL H l ws) ∧ Grow l (wrL H l ws)
  | [], N, l, h, _, _ => ⟨h.weak (by simp), Grow.refl l⟩
  | x :: ws, N, l, h, h0, hN => by
    rw [List.length_cons] at hN
    have h1 : GoodL H d (N + 1) (wrI H l x) ∧ Grow l (wrI H l x) := by
      unfold wrI
      split
      · rename_i he
        exact h.put h0 (by omega) he
      · exact ⟨h.weak (by omega), Grow.refl l⟩
    obtain ⟨h2, h3⟩ := GoodL.writes ws h1.1 (by omega) (by omega)
    refine ⟨?_, h1.2.trans h3⟩
    rw [List.length_cons]
    exact h2.weak (by omega)
theorem mem_repR {H : Hom} {y : Item} : ∀ {l r : List Item}, y ∈ repR H r l → y ∈ r ∨ y ∈ l
  | [], r, h => .inl h
  | x :: l, r, h => by
    rcases mem_repR (l := l) (r := stepI H r x) h with h1 | h1
    · unfold stepI at h1
      split at h1
      · rcases List.mem_or_eq_of_mem_set h1 with h2 | h2
        · exact .inl h2
        · exact .inr (by simp [h2])
      · exact .inl h1
    · exact .inr (by simp [h1])
theorem keep_step {H : Hom} {r : List Item} {x y : Item} (hx : x ∈ r) (h : y.key = x.key → y.version ≤ x.version) : x ∈ stepI H r y := by
  unfold stepI
  split
  · rename_i hc
    obtain ⟨hi, hv, _⟩ := hc
    have hk := itemAt_keyS hi
    obtain ⟨j, hj, rfl⟩ := List.getElem_of_mem hx
    by_cases e : itemAt r y.key = j
    · subst e
      have hg : r.getD (itemAt r y.key) default = r[itemAt r y.key] := by simp [List.getD, hi]
      rw [hg] at hv hk
      have := h hk.symm
      omega
    · have : (r.set (itemAt r y.key) y)[j]'(by rw [List.length_set]; exact hj) = r[j] := List.getElem_set_ne e _
      rw [← this]; exact List.getElem_mem _
  · exact hx
theorem keep_rep {H : Hom} {x : Item} : ∀ {l r : List Item}, x ∈ r → (∀ y ∈ l, y.key = x.key → y.version ≤ x.version) → x ∈ repR H r l
  | [], r, hx, _ => hx
  | y :: l, r, hx, h => keep_rep (l := l) (r := stepI H r y) (keep_step hx (h y (by simp))) fun z hz => h z (by simp [hz])
theorem unrep_keys (H : Hom) (d : Int) : (unrepL H d).map Item.key = keysL H d := by
  unfold unrepL initL
  rw [List.map_map, List.map_map]
  apply List.ext_getElem
  · simp
  · intro i h1 h2
    simp [List.getD, h2]
theorem mem_unrep {H : Hom} {d : Int} {y : Item} (h : y ∈ unrepL H d) : y.version = 0 ∧ y.key ∈ keysL H d := by
  have hk : y.key ∈ (unrepL H d).map Item.key := List.mem_map.2 ⟨y, h, rfl⟩
  rw [unrep_keys] at hk
  refine ⟨?_, hk⟩
  unfold unrepL at h
  obtain ⟨x, _, rfl⟩ := List.mem_map.1 h
  rfl
end Go.Abs

namespace Go.Abs
open Go.Proofs
variable [Globals]
theorem forI_all {ρ σ : Type} {f : Nat → σ → ρ ⊕ σ} {n : Nat} {s s' : σ} {p : Nat → Prop} (h : forI f n 0 s = .inr s') (hp : ∀ i s s', i < n → f i s = .inr s' → p i) : ∀ i, i < n → p i := by
  have := forI_inv (f := f) (fun k _ => ∀ i, i < k → p i) n 0 s (fun i hi => absurd hi (by omega)) (fun i s s' _ h2 h3 h4 j hj => by
    by_cases e : j = i
    · subst e; exact hp j s s' (by omega) h4
    · exact h3 j (by omega)) s' h
  rw [Nat.zero_add] at this
  exact this
theorem cap_parts {f : ByteArray → Option Clu} {d : Dev} (h : capE f d = 0) : ∀ i, i < d.clusters.length → (f (d.clusters.getD i default)).isSome = true ∧ ¬ idxOf d.clusters (d.clusters.getD i default) < i := by
  unfold capE at h
  split at h
  · cases h
  split at h
  · rename_i e he
    exfalso
    subst h
    have key : ∀ (n k : Nat) (s : Int), forI (capStep f d) n k s ≠ .inl 0 := by
      intro n
      induction n with
      | zero => intro k s hh; cases hh
      | succ n ih =>
        intro k s hh
        rw [forI] at hh
        unfold capStep at hh
        split at hh
        · rename_i r hr
          split at hr
          · cases hr; cases hh
          · split at hr
            · cases hr; cases hh
            · cases hr
        · exact ih _ _ hh
    exact key _ _ _ he
  · rename_i n he
    refine forI_all he fun i s s' _ hs => ?_
    unfold capStep at hs
    split at hs
    · cases hs
    · rename_i c hc
      split at hs
      · cases hs
      · rename_i h2; exact ⟨by rw [hc]; rfl, h2⟩
theorem cap_distinct {f : ByteArray → Option Clu} {d : Dev} (h : capE f d = 0) : d.clusters.Nodup := by
  rw [List.nodup_iff_pairwise_ne, List.pairwise_iff_getElem]
  intro i j hi hj hij e
  have h2 := (cap_parts h j hj).2
  rw [idxOf_lt hj] at h2
  apply h2
  unfold memN
  refine anyN_true hij ?_
  simp [List.getD, hi, hj, e]
theorem clu_nodup {c : Clu} (h : Checked c) : (c.attrs.map Attr.name).Nodup := by
  rw [List.nodup_iff_pairwise_ne, List.pairwise_iff_getElem]
  intro i j hi hj hij e
  rw [List.length_map] at hi hj
  apply h.distinct i j hij hj
  simpa [List.getD, hi, hj] using e
theorem mem_keysL {H : Hom} {d : Int} {k : Key} : k ∈ keysL H d ↔ k.dev = d ∧ k.cluster ∈ (findD H d).clusters ∧ ∃ a ∈ attrsOf (firstC H.clusters k.cluster), a.name = k.attr := by
  unfold keysL keysOf1
  rw [List.mem_flatMap]
  constructor
  · rintro ⟨s, hs, hk⟩
    obtain ⟨a, ha, rfl⟩ := List.mem_map.1 hk
    exact ⟨rfl, hs, a, ha, rfl⟩
  · rintro ⟨rfl, hs, a, ha, e⟩
    refine ⟨k.cluster, hs, List.mem_map.2 ⟨a, ha, ?_⟩⟩
    rw [e]
theorem keysL_nodup (H : Hom) (d : Int) : (keysL H d).Nodup := by
  cases hb : findB H d with
  | false => rw [keysL, findD_none hb]; exact List.nodup_nil
  | true =>
    have hcap := findD_cap hb
    have hv : homE H = 0 := by simp only [findB, Bool.and_eq_true, decide_eq_true_eq] at hb; exact hb.1
    have hn := cap_distinct hcap
    unfold keysL
    generalize (findD H d).clusters = l at hn
    induction l with
    | nil => exact List.nodup_nil
    | cons s l ih =>
      obtain ⟨h1, h2⟩ := List.nodup_cons.1 hn
      rw [List.flatMap_cons, List.nodup_append]
      refine ⟨?_, ih h2, fun a ha b hb e => ?_⟩
      · unfold keysOf1 attrsOf
        split
        · rename_i c hc
          have := clu_nodup (firstC_checked hv hc)
          rw [List.nodup_iff_pairwise_ne, List.pairwise_map] at *
          refine this.imp fun hne e => hne ?_
          exact congrArg Key.attr e
        · exact List.nodup_nil
      · unfold keysOf1 at ha
        obtain ⟨x, _, rfl⟩ := List.mem_map.1 ha
        obtain ⟨t, ht, hb2⟩ := List.mem_flatMap.1 hb
        unfold keysOf1 at hb2
        obtain ⟨y, _, rfl⟩ := List.mem_map.1 hb2
        have : s = t := congrArg Key.cluster e
        rw [this] at h1; exact h1 ht
theorem attrAt_mem {l : List Attr} {s : ByteArray} (h : attrAt l s < l.length) : ∃ a ∈ l, a.name = s ∧ l.getD (attrAt l s) default = a := by
  rcases firstI_cases (n := l.length) (p := fun i => decide ((l.getD i default).name = s)) with ⟨_, h2, _⟩ | ⟨h1, _⟩
  · refine ⟨l.getD (attrAt l s) default, ?_, of_decide_eq_true h2, rfl⟩
    have hg : l.getD (attrAt l s) default = l[attrAt l s] := by rw [List.getD_eq_getElem?_getD, List.getElem?_eq_getElem h]; rfl
    rw [hg]; exact List.getElem_mem _
  · unfold attrAt at h; omega
theorem attrAt_lt {l : List Attr} {a : Attr} (h : a ∈ l) : attrAt l a.name < l.length := by
  rcases firstI_cases (n := l.length) (p := fun i => decide ((l.getD i default).name = a.name)) with ⟨h1, _⟩ | ⟨_, h2⟩
  · exact h1
  · exfalso
    obtain ⟨i, hi, e⟩ := List.getElem_of_mem h
    have := h2 i hi
    simp [List.getD, hi, e] at this
theorem idxOf_of_mem {l : List ByteArray} {s : ByteArray} (h : s ∈ l) : 0 ≤ idxOf l s := by
  unfold idxOf
  cases e : l.findIdx? (· = s) with
  | some i => simp
  | none =>
    rw [List.findIdx?_eq_none_iff] at e
    have := e s h
    simp at this
theorem find_key {H : Hom} {k : Key} {a : Attr} (h : findA H k = some a) : k ∈ keysL H k.dev ∧ defE a = 0 := by
  unfold findA partO at h
  split at h
  · rename_i hc
    obtain ⟨hb, hi⟩ := hc
    have hv : homE H = 0 := by simp only [findB, Bool.and_eq_true, decide_eq_true_eq] at hb; exact hb.1
    unfold attrO at h
    split at h
    · rename_i c hcl
      split at h
      · rename_i hlt
        obtain ⟨x, hx, e1, e2⟩ := attrAt_mem hlt
        obtain ⟨j, hj, e3⟩ := idxOf_mem hi
        rw [mem_keysL]
        refine ⟨⟨rfl, ?_, x, ?_, e1⟩, ?_⟩
        · rw [← e3]; simp [List.getD, hj]
        · rw [hcl]; exact hx
        · cases h
          exact (firstC_checked hv hcl).defs _ hlt
      · cases h
    · cases h
  · simp [attrO] at h
theorem key_find {H : Hom} {d : Int} {k : Key} (h : k ∈ keysL H d) : ∃ a, findA H k = some a := by
  obtain ⟨rfl, h2, a, ha, e⟩ := mem_keysL.1 h
  have hb : findB H k.dev = true := by
    cases hb : findB H k.dev with
    | true => rfl
    | false => rw [findD_none hb] at h2; cases h2
  unfold findA partO
  rw [if_pos ⟨hb, idxOf_of_mem h2⟩]
  unfold attrsOf at ha
  split at ha
  · rename_i c hc
    rw [hc]
    unfold attrO
    have := attrAt_lt ha
    rw [e] at this
    exact ⟨_, if_pos this⟩
  · cases ha
theorem key_find_ok {H : Hom} {d : Int} {k : Key} (h : k ∈ keysL H d) : ∃ a, findA H k = some a ∧ defE a = 0 := by
  obtain ⟨a, ha⟩ := key_find h
  exact ⟨a, ha, (find_key ha).2⟩
theorem zero_fits2 {a : Attr} (h : defE a = 0) : fitsE a (zeroV a) = 0 := by
  have hz : zeroV a = if a.kind = 2 then ⟨a.kind, clampI 0 a.min a.max, ⟨#[]⟩⟩ else ⟨a.kind, 0, ⟨#[]⟩⟩ := by unfold zeroV; rw [if_neg (by simpa using h)]
  have hd := h
  unfold defE at hd
  split at hd
  · cases hd
  split at hd
  · cases hd
  rename_i hk
  split at hd
  · cases hd
  rename_i h2
  split at hd
  · cases hd
  by_cases e2 : a.kind = 2
  · have hr : inRange a.min = true ∧ inRange a.max = true ∧ a.min ≤ a.max := by
      refine ⟨?_, ?_, ?_⟩
      · cases hh : inRange a.min with
        | true => rfl
        | false => exact absurd ⟨e2, .inl hh⟩ h2
      · cases hh : inRange a.max with
        | true => rfl
        | false => exact absurd ⟨e2, .inr (.inl hh)⟩ h2
      · exact Int.not_lt.1 fun hh => h2 ⟨e2, .inr (.inr hh)⟩
    have hc : a.min ≤ clampI 0 a.min a.max ∧ clampI 0 a.min a.max ≤ a.max := by
      unfold clampI; split
      · omega
      · split <;> omega
    rw [fits_iff, hz, if_pos e2]
    refine ⟨h, ?_, rfl, ?_⟩
    · have hi : inRange (clampI 0 a.min a.max) = true := by
        obtain ⟨h3, h4, _⟩ := hr
        simp only [inRange, Bool.and_eq_true, decide_eq_true_eq] at h3 h4 ⊢
        omega
      simp only [valE]
      rw [if_neg (by omega), if_neg (by rw [e2, hi]; simp), if_neg (by decide), if_neg (by simp)]
    · simp only
      omega
  · rw [fits_iff, hz, if_neg e2]
    refine ⟨h, ?_, rfl, ?_⟩
    · simp only [valE]
      rw [if_neg (by omega), if_neg (by omega), if_neg (by decide), if_neg (by simp)]
    · simp only
      rintro (⟨h3, _⟩ | ⟨h3, h4⟩)
      · exact e2 h3
      · rw [if_pos h3] at hd
        unfold membersE at hd
        split at hd
        · cases hd
        · omega
end Go.Abs

namespace Go.Abs
open Go.Proofs
variable [Globals]
structure Ply where
  a : Agt
  s : Shd
  sent : List Msg
  now : Int
structure Stp where
  kind : Int
  i : Int
  key : Int
  value : Val
  deriving Inhabited
def Cov (s : Shd) (a : Agt) (v : Int) : Prop := ∀ x ∈ a.items, x.version ≤ v → s.epoch = a.epoch ∧ x ∈ s.reported
structure Mono (s : Shd) (a : Agt) (s' : Shd) (a' : Agt) : Prop where
  ep : a'.epoch = a.epoch
  grow : Grow a.items a'.items
  keep : s.epoch = a.epoch → s'.epoch = a.epoch ∧ ∀ x ∈ s.reported, x ∈ a'.items → x ∈ s'.reported
theorem Cov.mono {s s' : Shd} {a a' : Agt} {v : Int} (h : Cov s a v) (hr : Reach a.items v) (m : Mono s a s' a') : Cov s' a' v := by
  intro x hx hv
  have hx2 := m.grow.low hr hx hv
  obtain ⟨h1, h2⟩ := h x hx2 hv
  obtain ⟨h3, h4⟩ := m.keep h1
  exact ⟨h3.trans m.ep.symm, h4 x h2 hx⟩
theorem Cov.le {s : Shd} {a : Agt} {v w : Int} (h : Cov s a v) (hw : w ≤ v) : Cov s a w := fun x hx hv => h x hx (by omega)
structure RepOk (s : Shd) (a : Agt) (m : Msg) : Prop where
  ep : m.epoch ≤ a.epoch
  reach : m.epoch = a.epoch → Reach a.items m.version
  past : m.epoch = a.epoch → ∀ y ∈ m.items, Past a.items y
  cov : m.epoch = a.epoch → ∀ x ∈ a.items, x.version ≤ m.version → x ∈ m.items ∨ (s.epoch = a.epoch ∧ x ∈ s.reported)
structure CnfOk (s : Shd) (a : Agt) (m : Msg) : Prop where
  ep : m.epoch ≤ a.epoch
  reach : m.epoch = a.epoch → Reach a.items m.version
  cov : m.epoch = a.epoch → Cov s a m.version
structure MsgOk (s : Shd) (a : Agt) (m : Msg) : Prop where
  few : m.items.length ≤ 7
  rep : m.kind = 1 → RepOk s a m
  cnf : m.kind = 2 → CnfOk s a m
theorem MsgOk.mono {s s' : Shd} {a a' : Agt} {m : Msg} (h : MsgOk s a m) (k : Mono s a s' a') : MsgOk s' a' m where
  few := h.few
  rep e := by
    have r := h.rep e
    refine ⟨by rw [k.ep]; exact r.ep, fun he => k.grow.reach (r.reach (by rw [← k.ep]; exact he)), fun he y hy => k.grow.past (r.past (by rw [← k.ep]; exact he) y hy), fun he x hx hv => ?_⟩
    rw [k.ep] at he
    have hx2 := k.grow.low (r.reach he) hx hv
    rcases r.cov he x hx2 hv with h1 | ⟨h1, h2⟩
    · exact .inl h1
    · obtain ⟨h3, h4⟩ := k.keep h1
      exact .inr ⟨h3.trans k.ep.symm, h4 x h2 hx⟩
  cnf e := by
    have r := h.cnf e
    refine ⟨by rw [k.ep]; exact r.ep, fun he => k.grow.reach (r.reach (by rw [← k.ep]; exact he)), fun he => ?_⟩
    rw [k.ep] at he
    exact (r.cov he).mono (r.reach he) k
structure DesOk (H : Hom) (d B : Int) (s : Shd) : Prop where
  nodup : (s.desired.map Item.key).Nodup
  keys : ∀ x ∈ s.desired, x.key ∈ keysL H d
  dist : ∀ x ∈ s.desired, ∀ y ∈ s.desired, x.version = y.version → x = y
  low : ∀ x ∈ s.desired, 1 ≤ x.version
  top : ∀ x ∈ s.desired, x.version ≤ s.want
  want : 0 ≤ s.want ∧ s.want ≤ B
theorem DesOk.weak {H : Hom} {d B C : Int} {s : Shd} (h : DesOk H d B s) (hBC : B ≤ C) : DesOk H d C s := ⟨h.nodup, h.keys, h.dist, h.low, h.top, h.want.1, Int.le_trans h.want.2 hBC⟩
theorem DesOk.same {H : Hom} {d B : Int} {s t : Shd} (h : DesOk H d B s) (e1 : t.desired = s.desired) (e2 : t.want = s.want) : DesOk H d B t := by
  obtain ⟨h1, h2, h3, h4, h5, h6⟩ := h
  exact ⟨by rw [e1]; exact h1, by rw [e1]; exact h2, by rw [e1]; exact h3, by rw [e1]; exact h4, by rw [e1, e2]; exact h5, by rw [e2]; exact h6⟩
structure PInv (H : Hom) (d B : Int) (p : Ply) : Prop where
  good : GoodL H d B p.a.items
  adev : p.a.dev = d
  aep : 0 ≤ p.a.epoch ∧ p.a.epoch ≤ B
  ack0 : 0 ≤ p.a.acked
  ackr : Reach p.a.items p.a.acked
  asent : p.a.sent ≤ p.now
  nw : 0 ≤ p.now ∧ p.now ≤ B
  sdev : p.s.dev = d
  skeys : p.s.reported.map Item.key = keysL H d
  sep : p.s.epoch ≤ p.a.epoch
  ssent : p.s.sent ≤ p.now
  past : p.s.epoch = p.a.epoch → ∀ y ∈ p.s.reported, Past p.a.items y
  cack : Cov p.s p.a p.a.acked
  des : DesOk H d B p.s
  msgs : ∀ m ∈ p.sent, MsgOk p.s p.a m
theorem PInv.time {H : Hom} {d B : Int} {p : Ply} (h : PInv H d B p) {n : Int} (hn : 0 ≤ n) : PInv H d (B + n) { p with now := p.now + n } where
  good := h.good.weak (by omega)
  adev := h.adev
  aep := ⟨h.aep.1, by have := h.aep.2; show p.a.epoch ≤ B + n; omega⟩
  ack0 := h.ack0
  ackr := h.ackr
  asent := by have := h.asent; show p.a.sent ≤ p.now + n; omega
  nw := by have := h.nw; show 0 ≤ p.now + n ∧ p.now + n ≤ B + n; omega
  sdev := h.sdev
  skeys := h.skeys
  sep := h.sep
  ssent := by have := h.ssent; show p.s.sent ≤ p.now + n; omega
  past := h.past
  cack := h.cack
  des := h.des.weak (by omega)
  msgs := h.msgs
theorem PInv.weak {H : Hom} {d B C : Int} {p : Ply} (h : PInv H d B p) (hBC : B ≤ C) : PInv H d C p where
  good := h.good.weak hBC
  adev := h.adev
  aep := ⟨h.aep.1, Int.le_trans h.aep.2 hBC⟩
  ack0 := h.ack0
  ackr := h.ackr
  asent := h.asent
  nw := ⟨h.nw.1, Int.le_trans h.nw.2 hBC⟩
  sdev := h.sdev
  skeys := h.skeys
  sep := h.sep
  ssent := h.ssent
  past := h.past
  cack := h.cack
  des := h.des.weak hBC
  msgs := h.msgs
theorem PInv.less {H : Hom} {d B : Int} {p : Ply} (h : PInv H d B p) {l : List Msg} (hl : ∀ m ∈ l, m ∈ p.sent) : PInv H d B { p with sent := l } where
  good := h.good
  adev := h.adev
  aep := h.aep
  ack0 := h.ack0
  ackr := h.ackr
  asent := h.asent
  nw := h.nw
  sdev := h.sdev
  skeys := h.skeys
  sep := h.sep
  ssent := h.ssent
  past := h.past
  cack := h.cack
  des := h.des
  msgs m hm := h.msgs m (hl m hm)
theorem PInv.items {H : Hom} {d B C : Int} {p : Ply} (h : PInv H d B p) (hBC : B ≤ C) {a' : Agt} (e1 : a'.dev = p.a.dev) (e2 : a'.epoch = p.a.epoch) (e3 : a'.acked = p.a.acked) (hs : a'.sent ≤ p.now) (hg : GoodL H d C a'.items) (hw : Grow p.a.items a'.items) : PInv H d C { p with a := a' } := by
  have m : Mono p.s p.a p.s a' := ⟨e2, hw, fun he => ⟨he, fun x hx _ => hx⟩⟩
  exact {
    good := hg
    adev := e1.trans h.adev
    aep := by rw [e2]; exact ⟨h.aep.1, Int.le_trans h.aep.2 hBC⟩
    ack0 := by rw [e3]; exact h.ack0
    ackr := by rw [e3]; exact hw.reach h.ackr
    asent := hs
    nw := ⟨h.nw.1, Int.le_trans h.nw.2 hBC⟩
    sdev := h.sdev
    skeys := h.skeys
    sep := by rw [e2]; exact h.sep
    ssent := h.ssent
    past := fun he y hy => hw.past (h.past (he.trans e2) y hy)
    cack := by rw [e3]; exact h.cack.mono h.ackr m
    des := h.des.weak hBC
    msgs := fun q hq => (h.msgs q hq).mono m }
theorem PInv.more {H : Hom} {d B : Int} {p : Ply} (h : PInv H d B p) {m : Msg} (hm : MsgOk p.s p.a m) : PInv H d B { p with sent := p.sent ++ [m] } where
  good := h.good
  adev := h.adev
  aep := h.aep
  ack0 := h.ack0
  ackr := h.ackr
  asent := h.asent
  nw := h.nw
  sdev := h.sdev
  skeys := h.skeys
  sep := h.sep
  ssent := h.ssent
  past := h.past
  cack := h.cack
  des := h.des
  msgs q hq := by
    rcases List.mem_append.1 hq with hq | hq
    · exact h.msgs q hq
    · rw [List.mem_singleton.1 hq]; exact hm
theorem PInv.loc {H : Hom} {d B : Int} {p : Ply} (h : PInv H d B p) (h0 : 0 ≤ B) (hB : B < 1099511627776) {k : Key} {v : Val} (he : locE H p.a k v = 0) : PInv H d (B + 1) { p with a := locA H p.a k v } := by
  have hs : setE H p.a.items k v false = 0 := by
    unfold locE at he
    split at he
    · cases he
    · exact he
  obtain ⟨g1, g2⟩ := h.good.put h0 hB hs
  have hl : locA H p.a k v = { p.a with items := setL H p.a.items k v false, sent := if setL H p.a.items k v false = p.a.items then p.a.sent else -1 } := by
    rw [locA, if_neg (by rw [he]; decide)]
  rw [hl]
  refine h.items (by omega) rfl rfl rfl ?_ g1 g2
  have := h.asent
  have := h.nw
  show (if setL H p.a.items k v false = p.a.items then p.a.sent else -1) ≤ p.now
  split <;> omega
theorem map_key_drop {l : List Item} {k : Key} : (dropD l k).map Item.key = (l.map Item.key).filter fun q => decide (q ≠ k) := by
  unfold dropD
  rw [List.filter_map]
  rfl
theorem DesOk.put {H : Hom} {d B : Int} {s : Shd} (h : DesOk H d B s) (hB : B < 1099511627775) {k : Key} {v : Val} (hd : s.dev = d) (he : desE H s k v = 0) : DesOk H d (B + 1) (desS H s k v) := by
  have hk : k ∈ keysL H d := by
    unfold desE at he
    split at he
    · cases he
    · rename_i a ha
      split at he
      · cases he
      · rename_i hkd
        have := (find_key ha).1
        have e : k.dev = s.dev := Decidable.not_not.1 hkd
        rw [e, hd] at this
        exact this
  unfold desS
  rw [if_neg (by rw [he]; decide)]
  split
  · exact h.weak (by omega)
  have hw := h.want
  have hwi : wantI s.want = s.want + 1 := by unfold wantI maxTick; omega
  rw [hwi]
  have hnew : ∀ x ∈ dropD s.desired k, x.version < s.want + 1 := fun x hx => by
    have := h.top x (mem_dropD.1 hx).1; omega
  have hperm : (putD (dropD s.desired k) ⟨k, v, s.want + 1⟩).Perm (⟨k, v, s.want + 1⟩ :: dropD s.desired k) := by
    unfold putD
    refine List.perm_middle.trans ?_
    rw [List.take_append_drop]
  refine ⟨?_, ?_, ?_, ?_, ?_, ?_⟩
  · show ((putD (dropD s.desired k) ⟨k, v, s.want + 1⟩).map Item.key).Nodup
    rw [(hperm.map Item.key).nodup_iff, List.map_cons, List.nodup_cons]
    refine ⟨fun hm => ?_, ?_⟩
    · obtain ⟨x, hx, e⟩ := List.mem_map.1 hm
      exact (mem_dropD.1 hx).2 e
    · rw [map_key_drop]; exact h.nodup.filter _
  · intro x hx
    rcases mem_putD.1 hx with rfl | hx
    · exact hk
    · exact h.keys x (mem_dropD.1 hx).1
  · intro x hx y hy e
    rcases mem_putD.1 hx with rfl | hx <;> rcases mem_putD.1 hy with rfl | hy
    · rfl
    · have := hnew y hy; simp only at e; omega
    · have := hnew x hx; simp only at e; omega
    · exact h.dist x (mem_dropD.1 hx).1 y (mem_dropD.1 hy).1 e
  · intro x hx
    rcases mem_putD.1 hx with rfl | hx
    · show 1 ≤ s.want + 1; omega
    · exact h.low x (mem_dropD.1 hx).1
  · intro x hx
    rcases mem_putD.1 hx with rfl | hx
    · exact Int.le_refl _
    · have := hnew x hx; show x.version ≤ s.want + 1; omega
  · show 0 ≤ s.want + 1 ∧ s.want + 1 ≤ B + 1; omega
theorem PInv.desr {H : Hom} {d B : Int} {p : Ply} (h : PInv H d B p) (hB : B < 1099511627775) {k : Key} {v : Val} (he : desE H p.s k v = 0) : PInv H d (B + 1) { p with s := desS H p.s k v } := by
  have hr : (desS H p.s k v).reported = p.s.reported ∧ (desS H p.s k v).dev = p.s.dev ∧ (desS H p.s k v).epoch = p.s.epoch ∧ ((desS H p.s k v).sent = -1 ∨ (desS H p.s k v).sent = p.s.sent) := by
    unfold desS
    rw [if_neg (by rw [he]; decide)]
    split
    · exact ⟨rfl, rfl, rfl, .inr rfl⟩
    · exact ⟨rfl, rfl, rfl, .inl rfl⟩
  obtain ⟨r1, r2, r3, r4⟩ := hr
  have m : Mono p.s p.a (desS H p.s k v) p.a := ⟨rfl, Grow.refl _, fun he => ⟨r3.trans he, fun x hx _ => by rw [r1]; exact hx⟩⟩
  exact {
    good := h.good.weak (by omega)
    adev := h.adev
    aep := ⟨h.aep.1, by have := h.aep.2; show p.a.epoch ≤ B + 1; omega⟩
    ack0 := h.ack0
    ackr := h.ackr
    asent := h.asent
    nw := by have := h.nw; show 0 ≤ p.now ∧ p.now ≤ B + 1; omega
    sdev := r2.trans h.sdev
    skeys := by show (desS H p.s k v).reported.map Item.key = _; rw [r1]; exact h.skeys
    sep := by show (desS H p.s k v).epoch ≤ _; rw [r3]; exact h.sep
    ssent := by
      have := h.ssent
      have := h.nw
      show (desS H p.s k v).sent ≤ p.now
      rcases r4 with e | e <;> rw [e] <;> omega
    past := by
      intro e y hy
      exact h.past (r3.symm.trans e) y (by rw [← r1]; exact hy)
    cack := h.cack.mono h.ackr m
    des := h.des.put hB h.sdev he
    msgs := fun q hq => (h.msgs q hq).mono m }
end Go.Abs

namespace Go.Abs
open Go.Proofs Go.RowKit
set_option maxRecDepth 10000
structure SyC where
  h : Hom
  a : Agt
  s : Shd
  m : Msg
  k : Key
  v : Val
  now : Int
def cSyC (c : SyC) : List PV := cHom c.h ++ cAgt c.a ++ cShd c.s ++ cMsg c.m ++ cKey c.k ++ cVal c.v ++ [vint c.now]
structure smallSyC (c : SyC) : Prop where
  h : smallH c.h
  a : smallL c.a.items
  s : smallSh c.s
  m : smallL c.m.items
section
variable {H : Type} {enc : TypeId × Value → H} {w : World} {bulk : DataW H → Nat}
theorem op_Agent (hB : BulkOk bulk) : Opens enc Tryz.prog w bulk BB 28 cAgt (fun a => smallL a.items) :=
  (Opens.struct hB Tryz.underlying28 (by kernel_rfl) (.cons (size := 1) rfl (by kernel_rfl) op_int (.cons (size := 1) rfl (by kernel_rfl) op_int (.cons (size := 1) rfl (by kernel_rfl) op_int (.cons (size := 1) rfl (by kernel_rfl) op_int (.cons (size := 1) rfl (by kernel_rfl) op_int (.cons (size := 1) rfl (by kernel_rfl) (op_l_Item hB) .nil))))))).imp
    (fun x => ⟨x.1, x.2.1, x.2.2.1, x.2.2.2.1, x.2.2.2.2.1, x.2.2.2.2.2.1⟩) (fun _ => rfl) (fun _ h => h.2.2.2.2.2.1.1)
theorem op_law26_Case (hB : BulkOk bulk) : Opens enc Tryz.prog w bulk BB 38 cSyC smallSyC :=
  (Opens.struct hB Tryz.underlying38 (by kernel_rfl) (.cons (size := 2) rfl (by kernel_rfl) (op_Home hB) (.cons (size := 6) rfl (by kernel_rfl) (op_Agent hB) (.cons (size := 9) rfl (by kernel_rfl) (op_Shadow hB) (.cons (size := 8) rfl (by kernel_rfl) (op_Message hB) (.cons (size := 3) rfl (by kernel_rfl) (op_Key hB) (.cons (size := 3) rfl (by kernel_rfl) (op_Value hB) (.cons (size := 1) rfl (by kernel_rfl) op_int .nil)))))))).imp
    (fun x => ⟨x.1, x.2.1, x.2.2.1, x.2.2.2.1, x.2.2.2.2.1, x.2.2.2.2.2.1, x.2.2.2.2.2.2.1⟩) (fun _ => rfl) (fun _ h => ⟨h.1, h.2.1, h.2.2.1, h.2.2.2.1⟩)
end
end Go.Abs
