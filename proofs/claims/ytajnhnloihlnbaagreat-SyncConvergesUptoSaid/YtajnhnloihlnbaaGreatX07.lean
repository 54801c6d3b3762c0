/- YtajnhnloihlnbaaGreatX07: walks and contracts. -/
import Derived.Test.YtajnhnloihlnbaaGreatX06

set_option linter.unusedVariables false
set_option linter.unusedSimpArgs false
set_option linter.unusedSectionVars false

namespace Go.Abs
open Go.Proofs
variable [Globals]
theorem lastV_mem {l : List Item} (h : l ≠ []) : ∃ x ∈ l, x.version = lastV l := by
  have hl : 0 < l.length := List.length_pos_iff.2 h
  exact ⟨l.getD (l.length - 1) default, getD_mem (by omega), rfl⟩
theorem sortV_le {l : List Item} {i j : Nat} (hij : i ≤ j) (hj : j < (sortV l).length) : ((sortV l).getD i default).version ≤ ((sortV l).getD j default).version := by
  rcases Nat.lt_or_ge i j with h | h
  · have hs := sortV_srt l
    unfold SrtO at hs
    rw [List.pairwise_iff_getElem] at hs
    have := hs i j (by omega) hj h
    rw [oldLt_false] at this
    have g1 : (sortV l).getD i default = (sortV l)[i]'(by omega) := by rw [List.getD_eq_getElem?_getD, List.getElem?_eq_getElem (by omega)]; rfl
    have g2 : (sortV l).getD j default = (sortV l)[j] := by rw [List.getD_eq_getElem?_getD, List.getElem?_eq_getElem hj]; rfl
    rw [g1, g2]
    rcases this with h1 | h1
    · omega
    · omega
  · have : i = j := by omega
    rw [this]; exact Int.le_refl _
theorem getD_take_lt {l : List Item} {n i : Nat} (h : i < n) : (l.take n).getD i default = l.getD i default := by
  simp only [List.getD]; rw [List.getElem?_take_of_lt h]
theorem take_le {l : List Item} {n : Nat} : ∀ x ∈ (sortV l).take n, x.version ≤ lastV ((sortV l).take n) := by
  intro x hx
  obtain ⟨i, hi, rfl⟩ := List.getElem_of_mem hx
  have hi2 : i < n ∧ i < (sortV l).length := by rw [List.length_take] at hi; omega
  have g : ((sortV l).take n)[i] = ((sortV l).take n).getD i default := by rw [List.getD_eq_getElem?_getD, List.getElem?_eq_getElem hi]; rfl
  unfold lastV
  rw [g, getD_take_lt hi2.1, getD_take_lt (by rw [List.length_take]; omega)]
  refine sortV_le (by omega) ?_
  rw [List.length_take]; omega
theorem drop_ge {l : List Item} {n : Nat} (h : (sortV l).take n ≠ []) : ∀ x ∈ (sortV l).drop n, lastV ((sortV l).take n) ≤ x.version := by
  intro x hx
  obtain ⟨i, hi, rfl⟩ := List.getElem_of_mem hx
  rw [List.length_drop] at hi
  have hl : 0 < ((sortV l).take n).length := List.length_pos_iff.2 h
  rw [List.length_take] at hl
  have g : ((sortV l).drop n)[i]'(by rw [List.length_drop]; exact hi) = (sortV l).getD (n + i) default := by
    rw [List.getElem_drop, List.getD_eq_getElem?_getD, List.getElem?_eq_getElem (by omega)]; rfl
  unfold lastV
  rw [g, getD_take_lt (by rw [List.length_take]; omega)]
  refine sortV_le ?_ (by omega)
  rw [List.length_take]; omega
theorem batch_few (k d e : Int) (l : List Item) : (batchM k d e l).items.length ≤ 7 := by
  show (sortLow (l.take 7)).length ≤ 7
  rw [sortLow_length, List.length_take]; omega
theorem mem_batch {k d e : Int} {l : List Item} {x : Item} : x ∈ (batchM k d e l).items ↔ x ∈ l.take 7 := mem_sortLow
theorem take_ne {l : List Item} (h : l ≠ []) : l.take 7 ≠ [] := by
  cases l with
  | nil => exact absurd rfl h
  | cons x l => simp
theorem batch_low {H : Hom} {d B : Int} {l : List Item} {n : Int} (hg : GoodL H d B l) (hne : sortV (aboveL l n) ≠ []) : n < lastV ((sortV (aboveL l n)).take 7) ∧ Reach l (lastV ((sortV (aboveL l n)).take 7)) := by
  obtain ⟨y, hy, e⟩ := lastV_mem (take_ne hne)
  have hy2 := mem_above.1 (mem_sortV.1 (List.mem_of_mem_take hy))
  exact ⟨by rw [← e]; exact hy2.2, y, hy2.1, by rw [e]; exact Int.le_refl _⟩
theorem PInv.out {H : Hom} {d B : Int} {p : Ply} (h : PInv H d B p) (hB : B < 1099511627776) (hb : outB p.a p.now = true) : PInv H d B { p with a := outA p.a p.now, sent := p.sent ++ [outM p.a p.now] } := by
  have hne : outL p.a ≠ [] := by
    unfold outB at hb
    rw [Bool.and_eq_true, decide_eq_true_eq] at hb
    exact hb.1
  have hnw := h.nw
  have ht : tickI p.now = p.now := by unfold tickI; omega
  have hA : outA p.a p.now = { p.a with sent := p.now } := by rw [outA, if_pos hb, ht]
  rw [hA]
  have h1 : PInv H d B { p with a := { p.a with sent := p.now } } := h.items (Int.le_refl _) rfl rfl rfl (Int.le_refl _) h.good (Grow.refl _)
  refine h1.more ?_
  have hM : outM p.a p.now = batchM 1 p.a.dev p.a.epoch (outL p.a) := by rw [outM, if_pos hb]
  rw [hM]
  obtain ⟨b1, b2⟩ := batch_low h.good hne
  refine ⟨batch_few _ _ _ _, fun _ => ⟨Int.le_refl _, fun _ => b2, fun _ y hy => ?_, fun _ x hx hv => ?_⟩, fun e => ?_⟩
  · have hy2 := mem_above.1 (mem_sortV.1 (List.mem_of_mem_take (mem_batch.1 hy)))
    exact past_self hy2.1
  · change x.version ≤ lastV ((outL p.a).take 7) at hv
    by_cases hx2 : p.a.acked < x.version
    · left
      have hxL : x ∈ outL p.a := mem_sortV.2 (mem_above.2 ⟨hx, hx2⟩)
      rw [mem_batch]
      have hxs : x ∈ (outL p.a).take 7 ∨ x ∈ (outL p.a).drop 7 := by rw [← List.mem_append, List.take_append_drop]; exact hxL
      rcases hxs with h3 | h3
      · exact h3
      · have h4 := drop_ge (take_ne hne) x h3
        change lastV ((outL p.a).take 7) ≤ x.version at h4
        obtain ⟨y, hy, e⟩ := lastV_mem (take_ne hne)
        change y.version = lastV ((outL p.a).take 7) at e
        have hy2 := mem_above.1 (mem_sortV.1 (List.mem_of_mem_take hy))
        have : x = y := h.good.dist x hx y hy2.1 (by omega)
        rw [this]; exact hy
    · right
      exact h.cack x hx (by omega)
  · cases e
theorem PInv.shd {H : Hom} {d B : Int} {p : Ply} (h : PInv H d B p) {s' : Shd} (e1 : s'.dev = p.s.dev) (e2 : s'.epoch = p.s.epoch) (e3 : s'.reported = p.s.reported) (e4 : s'.desired = p.s.desired) (e5 : s'.want = p.s.want) (hs : s'.sent ≤ p.now) : PInv H d B { p with s := s' } := by
  have m : Mono p.s p.a s' p.a := ⟨rfl, Grow.refl _, fun he => ⟨e2.trans he, fun x hx _ => by rw [e3]; exact hx⟩⟩
  exact {
    good := h.good
    adev := h.adev
    aep := h.aep
    ack0 := h.ack0
    ackr := h.ackr
    asent := h.asent
    nw := h.nw
    sdev := e1.trans h.sdev
    skeys := by show s'.reported.map Item.key = _; rw [e3]; exact h.skeys
    sep := by show s'.epoch ≤ _; rw [e2]; exact h.sep
    ssent := hs
    past := fun e y hy => h.past (e2.symm.trans e) y (by rw [← e3]; exact hy)
    cack := h.cack.mono h.ackr m
    des := h.des.same e4 e5
    msgs := fun q hq => (h.msgs q hq).mono m }
theorem PInv.push {H : Hom} {d B : Int} {p : Ply} (h : PInv H d B p) (hB : B < 1099511627776) (hb : psB p.s p.now = true) : PInv H d B { p with s := psS p.s p.now, sent := p.sent ++ [psM p.s p.now] } := by
  have hnw := h.nw
  have ht : tickI p.now = p.now := by unfold tickI; omega
  have hS : psS p.s p.now = { p.s with sent := p.now } := by rw [psS, if_pos hb, ht]
  rw [hS]
  have h1 : PInv H d B { p with s := { p.s with sent := p.now } } := h.shd rfl rfl rfl rfl rfl (Int.le_refl _)
  refine h1.more ?_
  rw [psM, if_pos hb]
  exact ⟨batch_few _ _ _ _, fun e => (by cases e), fun e => (by cases e)⟩
theorem init_good {H : Hom} {d : Int} : GoodL H d 48 (initL H d) := by
  have hmem : ∀ x ∈ initL H d, ∃ i, i < (keysL H d).length ∧ x = ⟨(keysL H d).getD i default, zeroV ((findA H ((keysL H d).getD i default)).getD noAttr), (i : Int) + 1⟩ := fun x hx => by
    unfold initL at hx
    obtain ⟨i, hi, rfl⟩ := List.mem_map.1 hx
    exact ⟨i, List.mem_range.1 hi, rfl⟩
  have h48 := @keysL_48 H d
  refine ⟨?_, ?_, ?_, ?_, ?_⟩
  · have := unrep_keys H d
    unfold unrepL at this
    rw [List.map_map] at this
    exact this
  · intro x hx
    obtain ⟨i, hi, rfl⟩ := hmem x hx
    have hk : (keysL H d).getD i default ∈ keysL H d := by
      have : (keysL H d).getD i default = (keysL H d)[i] := by rw [List.getD_eq_getElem?_getD, List.getElem?_eq_getElem hi]; rfl
      rw [this]; exact List.getElem_mem _
    obtain ⟨a, ha, hd⟩ := key_find_ok hk
    unfold okI
    rw [ha]
    exact decide_eq_true (zero_fits2 hd)
  · intro x hx
    obtain ⟨i, hi, rfl⟩ := hmem x hx
    show (1 : Int) ≤ (i : Int) + 1; omega
  · intro x hx
    obtain ⟨i, hi, rfl⟩ := hmem x hx
    show (i : Int) + 1 ≤ 48; omega
  · intro x hx y hy e
    obtain ⟨i, hi, rfl⟩ := hmem x hx
    obtain ⟨j, hj, rfl⟩ := hmem y hy
    simp only at e
    have : i = j := by omega
    rw [this]
theorem GoodL.ne {H : Hom} {d N : Int} {l : List Item} (h : GoodL H d N l) (hk : keysL H d ≠ []) : l ≠ [] := by
  rintro rfl
  exact hk h.keys.symm
theorem GoodL.reach0 {H : Hom} {d N : Int} {l : List Item} (h : GoodL H d N l) (hk : keysL H d ≠ []) : Reach l 0 := by
  obtain ⟨x, hx⟩ := List.exists_mem_of_ne_nil _ (h.ne hk)
  exact ⟨x, hx, by have := h.pos x hx; omega⟩
theorem PInv.start {H : Hom} {d B : Int} {p : Ply} (h : PInv H d B p) (hB : 48 ≤ B ∧ B < 1099511627775) (hk : keysL H d ≠ []) (hf : findB H d = true) : PInv H d (B + 1) { p with a := newA H p.a.dev (p.a.epoch + 1) } := by
  have ht : tickI (p.a.epoch + 1) = p.a.epoch + 1 := by have := h.aep; unfold tickI; omega
  have hA : newA H p.a.dev (p.a.epoch + 1) = ⟨d, p.a.epoch + 1, 0, 0, -1, initL H d⟩ := by rw [newA, h.adev, if_pos hf, ht]
  rw [hA]
  have hg : GoodL H d 48 (initL H d) := init_good
  have hse := h.sep
  have hpos : ∀ x ∈ initL H d, ¬ x.version ≤ 0 := fun x hx => by have := hg.pos x hx; omega
  exact {
    good := hg.weak (by omega)
    adev := rfl
    aep := by have := h.aep; show 0 ≤ p.a.epoch + 1 ∧ p.a.epoch + 1 ≤ B + 1; omega
    ack0 := Int.le_refl _
    ackr := hg.reach0 hk
    asent := by have := h.nw; show (-1 : Int) ≤ p.now; omega
    nw := by have := h.nw; show 0 ≤ p.now ∧ p.now ≤ B + 1; omega
    sdev := h.sdev
    skeys := h.skeys
    sep := by show p.s.epoch ≤ p.a.epoch + 1; omega
    ssent := h.ssent
    past := fun e => by
      exfalso
      have : p.s.epoch = p.a.epoch + 1 := e
      omega
    cack := fun x hx hv => absurd hv (hpos x hx)
    des := h.des.weak (by omega)
    msgs := fun m hm => by
      have k := h.msgs m hm
      refine ⟨k.few, fun e => ?_, fun e => ?_⟩
      · have r := k.rep e
        have := r.ep
        refine ⟨by show m.epoch ≤ p.a.epoch + 1; omega, ?_, ?_, ?_⟩ <;>
          (intro e2; exfalso; have : m.epoch = p.a.epoch + 1 := e2; omega)
      · have r := k.cnf e
        have := r.ep
        refine ⟨by show m.epoch ≤ p.a.epoch + 1; omega, ?_, ?_⟩ <;>
          (intro e2; exfalso; have : m.epoch = p.a.epoch + 1 := e2; omega) }
theorem rep_sent {H : Hom} {s : Shd} {m : Msg} : (repS H s m).sent = -1 ∨ (repS H s m).sent = s.sent := by
  by_cases h : mineB s m = true
  · rw [rep_mine h]
    unfold baseS; split
    · exact .inl rfl
    · exact .inr rfl
  · rw [rep_not h]; exact .inr rfl
theorem rep_des {H : Hom} {s : Shd} {m : Msg} : (repS H s m).desired = s.desired ∧ (repS H s m).want = s.want := by
  by_cases h : mineB s m = true
  · rw [rep_mine h]
    unfold baseS; split <;> exact ⟨rfl, rfl⟩
  · rw [rep_not h]; exact ⟨rfl, rfl⟩
theorem base_keys {H : Hom} {s : Shd} {m : Msg} {d : Int} (hd : s.dev = d) (hk : s.reported.map Item.key = keysL H d) : (baseS H s m).reported.map Item.key = keysL H d := by
  unfold baseS; split
  · show (unrepL H s.dev).map Item.key = _
    rw [hd]; exact unrep_keys H d
  · exact hk
theorem keys_getD {l : List Item} {ks : List Key} (h : l.map Item.key = ks) {k : Key} (hk : k ∈ ks) : itemAt l k < l.length := by
  rw [← h] at hk
  obtain ⟨x, hx, rfl⟩ := List.mem_map.1 hk
  exact itemAt_lt hx
theorem PInv.uniq {H : Hom} {d B : Int} {l : List Item} (h : GoodL H d B l) {x y : Item} (hx : x ∈ l) (hy : y ∈ l) (e : x.key = y.key) : x = y := by
  have hn : (l.map Item.key).Nodup := by rw [h.keys]; exact keysL_nodup H d
  rw [List.nodup_iff_pairwise_ne, List.pairwise_map, List.pairwise_iff_getElem] at hn
  obtain ⟨i, hi, rfl⟩ := List.getElem_of_mem hx
  obtain ⟨j, hj, rfl⟩ := List.getElem_of_mem hy
  rcases Nat.lt_trichotomy i j with hij | hij | hij
  · exact absurd e (hn i j hi hj hij)
  · subst hij; rfl
  · exact absurd e.symm (hn j i hj hi hij)
theorem PInv.report {H : Hom} {d B : Int} {p : Ply} (h : PInv H d B p) {m : Msg} (hm : RepOk p.s p.a m) (hb : givB p.s m = true) :
    PInv H d B { p with s := repS H p.s m } ∧ CnfOk (repS H p.s m) p.a ⟨2, m.dev, m.epoch, m.version, [], ⟨#[]⟩, ⟨#[]⟩, ⟨#[]⟩⟩ ∧ (repS H p.s m).epoch = m.epoch := by
  have hb2 : mineB p.s m = true := by
    unfold givB at hb
    simp only [Bool.and_eq_true, decide_eq_true_eq] at hb
    exact mine_iff'.2 ⟨hb.1.2, hb.1.1, hb.2⟩
  have hse : p.s.epoch ≤ m.epoch := (mine_iff'.1 hb2).2.2
  have he : (repS H p.s m).epoch = m.epoch := rep_epoch hb2
  have hr : (repS H p.s m).reported = repR H (baseS H p.s m).reported m.items := by rw [rep_mine hb2]
  have hbk := base_keys (m := m) h.sdev h.skeys
  have hkeys : (repS H p.s m).reported.map Item.key = keysL H d := by rw [hr, repR_keys]; exact hbk
  have hmep := hm.ep
  have hpast : m.epoch = p.a.epoch → ∀ y ∈ (repS H p.s m).reported, Past p.a.items y := by
    intro e y hy
    rw [hr] at hy
    rcases mem_repR hy with h1 | h1
    · unfold baseS at h1
      split at h1
      · obtain ⟨v0, hk⟩ := mem_unrep h1
        rw [h.sdev, ← h.good.keys] at hk
        obtain ⟨x, hx, ek⟩ := List.mem_map.1 hk
        have := h.good.pos x hx
        exact ⟨x, hx, ek, by omega, fun e2 => by omega⟩
      · exact h.past (by omega) y h1
    · exact hm.past e y h1
  have mono : Mono p.s p.a (repS H p.s m) p.a := by
    refine ⟨rfl, Grow.refl _, fun e => ⟨by omega, fun x hx hxi => ?_⟩⟩
    have em : m.epoch = p.a.epoch := by omega
    rw [hr, base_same (by omega)]
    refine keep_rep hx fun y hy ek => ?_
    obtain ⟨z, hz, ez, h1, _⟩ := hm.past em y hy
    have : z = x := PInv.uniq h.good hz hxi (ez.trans ek)
    rw [← this]; exact h1
  refine ⟨?_, ?_, he⟩
  · obtain ⟨d1, d2⟩ := rep_des (H := H) (s := p.s) (m := m)
    exact {
      good := h.good
      adev := h.adev
      aep := h.aep
      ack0 := h.ack0
      ackr := h.ackr
      asent := h.asent
      nw := h.nw
      sdev := rep_dev.trans h.sdev
      skeys := hkeys
      sep := by show (repS H p.s m).epoch ≤ _; rw [he]; exact hmep
      ssent := by
        have := h.ssent
        have := h.nw
        show (repS H p.s m).sent ≤ p.now
        rcases rep_sent (H := H) (s := p.s) (m := m) with e | e <;> rw [e] <;> omega
      past := fun e => hpast (he.symm.trans e)
      cack := h.cack.mono h.ackr mono
      des := h.des.same d1 d2
      msgs := fun q hq => (h.msgs q hq).mono mono }
  · refine ⟨hmep, hm.reach, fun e x hx hv => ⟨he.trans e, ?_⟩⟩
    change m.epoch = p.a.epoch at e
    change x.version ≤ m.version at hv
    rcases hm.cov e x hx hv with h1 | ⟨h1, h2⟩
    · have hd := rep_done H m.items (baseS H p.s m).reported x h1
      rw [← hr] at hd
      have hlt := keys_getD hkeys (h.good.key_mem hx)
      have h3 := hd hlt (h.good.fits x hx)
      have hk := itemAt_keyS hlt
      have hmem := getD_mem hlt
      obtain ⟨z, hz, ez, h4, h5⟩ := hpast e _ hmem
      have hzx : z = x := PInv.uniq h.good hz hx (ez.trans hk)
      rw [hzx] at h4 h5
      have := h5 (by omega)
      rw [this] at hmem
      exact hmem
    · exact (mono.keep h1).2 x h2 hx
theorem great_ge : ∀ {l : List Item} {x : Item}, x ∈ l → x.version ≤ greatI l := by
  have key : ∀ (l : List Item) (n : Int), n ≤ l.foldl (fun n y => max n y.version) n ∧ ∀ x ∈ l, x.version ≤ l.foldl (fun n y => max n y.version) n := by
    intro l
    induction l with
    | nil => intro n; exact ⟨Int.le_refl _, fun x hx => by cases hx⟩
    | cons y l ih =>
      intro n
      obtain ⟨h1, h2⟩ := ih (max n y.version)
      rw [List.foldl_cons]
      refine ⟨by omega, fun x hx => ?_⟩
      rcases List.mem_cons.1 hx with rfl | hx
      · omega
      · exact h2 x hx
  intro l x hx
  cases l with
  | nil => cases hx
  | cons y l =>
    show x.version ≤ l.foldl (fun n y => max n y.version) y.version
    rcases List.mem_cons.1 hx with rfl | hx
    · exact (key l _).1
    · exact (key l _).2 x hx
theorem PInv.conf {H : Hom} {d B : Int} {p : Ply} (h : PInv H d B p) (hk : keysL H d ≠ []) {m : Msg} (hm : CnfOk p.s p.a m) : PInv H d B { p with a := confA p.a m } := by
  have gen : ∀ a' : Agt, a'.dev = p.a.dev → a'.epoch = p.a.epoch → a'.items = p.a.items → a'.sent = -1 → 0 ≤ a'.acked → Reach p.a.items a'.acked → Cov p.s p.a a'.acked → PInv H d B { p with a := a' } := by
    intro a' e1 e2 e3 e4 h0 hr hc
    have m : Mono p.s p.a p.s a' := ⟨e2, by rw [e3]; exact Grow.refl _, fun he => ⟨he, fun x hx _ => hx⟩⟩
    exact {
      good := by show GoodL H d B a'.items; rw [e3]; exact h.good
      adev := e1.trans h.adev
      aep := by show 0 ≤ a'.epoch ∧ _; rw [e2]; exact h.aep
      ack0 := h0
      ackr := by show Reach a'.items _; rw [e3]; exact hr
      asent := by have := h.nw; show a'.sent ≤ p.now; omega
      nw := h.nw
      sdev := h.sdev
      skeys := h.skeys
      sep := by show _ ≤ a'.epoch; rw [e2]; exact h.sep
      ssent := h.ssent
      past := fun e y hy => by
        show Past a'.items y
        rw [e3]; exact h.past (e.trans e2) y hy
      cack := hc.mono hr m
      des := h.des
      msgs := fun q hq => (h.msgs q hq).mono m }
  unfold confA
  split
  · rename_i hc
    have hr := hm.reach hc.1
    have hcv := hm.cov hc.1
    have hg : m.version ≤ greatI p.a.items := by
      obtain ⟨x, hx, h1⟩ := hr
      have := great_ge hx; omega
    have hmx : min m.version (greatI p.a.items) = m.version := by omega
    rw [hmx]
    have h0 := h.ack0
    refine gen _ rfl rfl rfl rfl ?_ ?_ ?_
    · show 0 ≤ max p.a.acked m.version; omega
    · show Reach p.a.items (max p.a.acked m.version)
      rcases Int.le_total p.a.acked m.version with h1 | h1
      · rw [Int.max_eq_right h1]; exact hr
      · rw [Int.max_eq_left h1]; exact h.ackr
    · show Cov p.s p.a (max p.a.acked m.version)
      rcases Int.le_total p.a.acked m.version with h1 | h1
      · rw [Int.max_eq_right h1]; exact hcv
      · rw [Int.max_eq_left h1]; exact h.cack
  · split
    · refine gen _ rfl rfl rfl rfl (Int.le_refl _) (h.good.reach0 hk) (fun x hx hv => ?_)
      have := h.good.pos x hx
      change x.version ≤ 0 at hv
      omega
    · exact h
theorem PInv.take {H : Hom} {d B : Int} {p : Ply} (h : PInv H d B p) (h0 : 0 ≤ B) (hB : B + 7 < 1099511627776) {m : Msg} (hm : m.items.length ≤ 7) {b : Agt} (hb : b = { p.a with items := takL H p.a m, applied := max p.a.applied m.version, sent := if takL H p.a m = p.a.items then p.a.sent else -1 }) : PInv H d (B + 7) { p with a := b } := by
  have hl : (sortV (aboveL m.items p.a.applied)).length ≤ 7 := by
    rw [sortV_length]
    exact Nat.le_trans (above_length _ _) hm
  obtain ⟨g1, g2⟩ := h.good.writes (sortV (aboveL m.items p.a.applied)) h0 (by omega)
  rw [hb]
  refine h.items (by omega) rfl rfl rfl ?_ (g1.weak (by omega)) g2
  have := h.asent
  have := h.nw
  show (if takL H p.a m = p.a.items then p.a.sent else -1) ≤ p.now
  split <;> omega
def arrP (H : Hom) (p : Ply) (m : Msg) : Ply :=
  if m.kind = 1 ∨ m.kind = 4 then { p with s := givS H p.s m, sent := if givB p.s m = true then p.sent ++ [givM p.s m] else p.sent }
  else { p with a := takA H p.a m, sent := if takB p.a m = true then p.sent ++ [takM p.a m] else p.sent }
theorem PInv.arrive {H : Hom} {d B : Int} {p : Ply} (h : PInv H d B p) (h0 : 0 ≤ B) (hB : B + 7 < 1099511627776) (hk : keysL H d ≠ []) {m : Msg} (hm : MsgOk p.s p.a m) : PInv H d (B + 7) (arrP H p m) := by
  unfold arrP
  split
  · rename_i hkind
    by_cases hb : givB p.s m = true
    · have hk1 : m.kind = 1 := by
        unfold givB at hb
        simp only [Bool.and_eq_true, decide_eq_true_eq] at hb
        exact hb.1.2
      obtain ⟨h1, h2, h3⟩ := h.report (hm.rep hk1) hb
      rw [if_pos hb, givS, if_pos hb, givM, if_pos hb]
      have := h1.weak (C := B + 7) (by omega)
      exact this.more ⟨Nat.zero_le _, fun e => (by cases e), fun _ => h2⟩
    · rw [if_neg hb, givS, if_neg hb]
      split
      · have hw := h.weak (C := B + 7) (by omega)
        have hd : (donS p.s m.epoch m.version).dev = p.s.dev ∧ (donS p.s m.epoch m.version).epoch = p.s.epoch ∧ (donS p.s m.epoch m.version).reported = p.s.reported ∧ (donS p.s m.epoch m.version).desired = p.s.desired ∧ (donS p.s m.epoch m.version).want = p.s.want := by
          unfold donS; split <;> exact ⟨rfl, rfl, rfl, rfl, rfl⟩
        obtain ⟨d1, d2, d3, d4, d5⟩ := hd
        refine hw.shd d1 d2 d3 d4 d5 ?_
        have := h.nw
        show (-1 : Int) ≤ p.now; omega
      · exact h.weak (by omega)
  · rename_i hkind
    by_cases hc : m.dev = p.a.dev ∧ m.kind = 2
    · have hb : ¬ takB p.a m = true := by
        unfold takB
        simp only [Bool.and_eq_true, decide_eq_true_eq]
        omega
      rw [if_neg hb, takA, if_pos hc]
      exact (h.conf hk (hm.cnf hc.2)).weak (by omega)
    · rw [takA, if_neg hc]
      split
      · rename_i hb
        rw [takM, if_pos hb]
        have h1 := h.take h0 hB hm.few rfl
        exact h1.more ⟨Nat.zero_le _, fun e => (by cases e), fun e => (by cases e)⟩
      · exact h.weak (by omega)
end Go.Abs

namespace Go.Abs
open Go.Proofs
variable [Globals]
theorem insR_perm {α : Type} (lt : α → α → Bool) (l : List α) (x : α) : (insR lt l x).Perm (x :: l) := by
  obtain ⟨p, q, h1, h2, _, _⟩ := insR_split (lt := lt) l x
  rw [h2, h1]
  exact List.perm_middle
theorem foldR_perm {α : Type} (lt : α → α → Bool) : ∀ (l a : List α), (l.foldl (insR lt) a).Perm (a ++ l)
  | [], a => by simp
  | x :: l, a => by
    rw [List.foldl_cons]
    refine (foldR_perm lt l _).trans ?_
    refine ((insR_perm lt a x).append_right l).trans ?_
    exact List.perm_middle.symm
theorem isortR_perm {α : Type} (lt : α → α → Bool) (l : List α) : (isortR lt l).Perm l := foldR_perm lt l []
theorem above_above {l : List Item} {n v : Int} (h : n ≤ v) : aboveL (aboveL l n) v = aboveL l v := by
  unfold aboveL
  rw [List.filter_filter]
  congr 1
  funext x
  rw [Bool.eq_iff_iff]
  simp only [Bool.and_eq_true, decide_eq_true_eq]
  omega
theorem cnt_batch {l M : List Item} {n : Int} (hM : M.Perm (aboveL l n)) (hv : n < lastV ((sortV M).take 7)) : (aboveL l (lastV ((sortV M).take 7))).length ≤ M.length - 7 := by
  have hL : (sortV M).Perm (aboveL l n) := (isortR_perm oldLt M).trans hM
  have h1 : (aboveL l (lastV ((sortV M).take 7))).length = (aboveL (sortV M) (lastV ((sortV M).take 7))).length := by
    rw [← above_above (l := l) (n := n) (by omega)]
    exact ((hL.filter _).length_eq).symm
  have hte := take_le (l := M) (n := 7)
  have hnil : aboveL ((sortV M).take 7) (lastV ((sortV M).take 7)) = [] := by
    unfold aboveL
    rw [List.filter_eq_nil_iff]
    intro x hx h2
    have := hte x hx
    have := of_decide_eq_true h2
    omega
  generalize lastV ((sortV M).take 7) = v at *
  have h2 : aboveL (sortV M) v = aboveL ((sortV M).take 7) v ++ aboveL ((sortV M).drop 7) v := by
    unfold aboveL
    rw [← List.filter_append, List.take_append_drop]
  rw [h1, h2, hnil, List.nil_append]
  have h3 := above_length ((sortV M).drop 7) v
  rw [List.length_drop, sortV_length] at h3
  exact h3
def hal1 (H : Hom) (p : Ply) : Ply :=
  if outB p.a p.now = true then
    { p with a := if givB p.s (outM p.a p.now) = true then takA H (outA p.a p.now) (givM p.s (outM p.a p.now)) else outA p.a p.now, s := givS H p.s (outM p.a p.now) }
  else p
def hal2 (H : Hom) (p : Ply) : Ply :=
  if psB p.s p.now = true then
    { p with a := takA H p.a (psM p.s p.now), s := if takB p.a (psM p.s p.now) = true then givS H (psS p.s p.now) (takM p.a (psM p.s p.now)) else psS p.s p.now }
  else p
def rndP (H : Hom) (p : Ply) : Ply := hal2 H (hal1 H { p with now := p.now + 10 })
def openU (p : Ply) : Nat := (aboveL p.a.items p.a.acked).length
def openP (p : Ply) : Nat := (penL p.s).length
theorem due_of {sent now : Int} (h : sent < 0 ∨ sent + 10 ≤ now) (h0 : 0 ≤ now) (hB : now < 1099511627776) : dueB sent (tickI now) = true := by
  have : tickI now = now := by unfold tickI; omega
  rw [this]
  unfold dueB
  simp only [Bool.or_eq_true, Bool.and_eq_true, decide_eq_true_eq]
  omega
structure Half1 (H : Hom) (d B : Int) (p q : Ply) : Prop where
  inv : PInv H d B q
  now : q.now = p.now
  ep : q.s.epoch = q.a.epoch
  u : openU q ≤ openU p - 7
  des : q.s.desired = p.s.desired
  done : p.s.epoch = p.a.epoch → q.s.done = p.s.done
  due : q.s.sent < 0 ∨ q.s.sent = p.s.sent
  sent : q.sent = p.sent
theorem PInv.half1 {H : Hom} {d B : Int} {p : Ply} (h : PInv H d B p) (hB : B < 1099511627776) (hk : keysL H d ≠ []) (hd : p.a.sent < 0 ∨ p.a.sent + 10 ≤ p.now) : Half1 H d B p (hal1 H p) := by
  have hnw := h.nw
  have hdue := due_of hd hnw.1 (by omega)
  by_cases hne : outL p.a = []
  · have hb : ¬ outB p.a p.now = true := by unfold outB; simp [hne]
    rw [hal1, if_neg hb]
    have hu : aboveL p.a.items p.a.acked = [] := by
      have := congrArg List.length hne
      unfold outL at this
      rw [sortV_length] at this
      exact List.eq_nil_of_length_eq_zero this
    refine ⟨h, rfl, ?_, by unfold openU; rw [hu]; simp, rfl, fun _ => rfl, .inr rfl, rfl⟩
    obtain ⟨x, hx⟩ := List.exists_mem_of_ne_nil _ (h.good.ne hk)
    have hle : x.version ≤ p.a.acked := by
      rcases Int.lt_or_le p.a.acked x.version with h1 | h1
      · have : x ∈ aboveL p.a.items p.a.acked := mem_above.2 ⟨hx, h1⟩
        rw [hu] at this; cases this
      · exact h1
    exact (h.cack x hx hle).1
  · have hb : outB p.a p.now = true := by unfold outB; rw [decide_eq_true hne, hdue]; rfl
    rw [hal1, if_pos hb]
    have h1 := h.out hB hb
    have hmem : outM p.a p.now ∈ p.sent ++ [outM p.a p.now] := by simp
    have hok := h1.msgs _ hmem
    have hM : outM p.a p.now = batchM 1 p.a.dev p.a.epoch (outL p.a) := by rw [outM, if_pos hb]
    have hA : outA p.a p.now = { p.a with sent := tickI p.now } := by rw [outA, if_pos hb]
    have hkind : (outM p.a p.now).kind = 1 := by rw [hM]; rfl
    have hmep : (outM p.a p.now).epoch = p.a.epoch := by rw [hM]; rfl
    have hmdev : (outM p.a p.now).dev = p.a.dev := by rw [hM]; rfl
    have hmv : (outM p.a p.now).version = lastV ((outL p.a).take 7) := by rw [hM]; rfl
    have hg : givB p.s (outM p.a p.now) = true := by
      unfold givB
      simp only [Bool.and_eq_true, decide_eq_true_eq]
      refine ⟨⟨?_, hkind⟩, ?_⟩
      · rw [hmdev, h.adev, h.sdev]
      · rw [hmep]; exact h.sep
    obtain ⟨r1, r2, r3⟩ := h1.report (hok.rep hkind) hg
    have hc := r1.conf hk r2
    obtain ⟨b1, b2⟩ := batch_low h.good hne
    have hgm : givM p.s (outM p.a p.now) = ⟨2, (outM p.a p.now).dev, (outM p.a p.now).epoch, (outM p.a p.now).version, [], ⟨#[]⟩, ⟨#[]⟩, ⟨#[]⟩⟩ := by rw [givM, if_pos hg]
    have hgs : givS H p.s (outM p.a p.now) = repS H p.s (outM p.a p.now) := by rw [givS, if_pos hg]
    rw [if_pos hg, hgm, hgs]
    have hta : takA H (outA p.a p.now) ⟨2, (outM p.a p.now).dev, (outM p.a p.now).epoch, (outM p.a p.now).version, [], ⟨#[]⟩, ⟨#[]⟩, ⟨#[]⟩⟩ = confA (outA p.a p.now) ⟨2, (outM p.a p.now).dev, (outM p.a p.now).epoch, (outM p.a p.now).version, [], ⟨#[]⟩, ⟨#[]⟩, ⟨#[]⟩⟩ := by
      rw [takA, if_pos ⟨by rw [hA]; exact hmdev, rfl⟩]
    rw [hta]
    have ack0 := h.ack0
    have hgr : (outM p.a p.now).version ≤ greatI p.a.items := by
      rw [hmv]
      obtain ⟨x, hx, h3⟩ := b2
      change lastV ((outL p.a).take 7) ≤ x.version at h3
      have := great_ge hx; omega
    change p.a.acked < lastV ((outL p.a).take 7) at b1
    have hcf : confA (outA p.a p.now) ⟨2, (outM p.a p.now).dev, (outM p.a p.now).epoch, (outM p.a p.now).version, [], ⟨#[]⟩, ⟨#[]⟩, ⟨#[]⟩⟩ = { p.a with acked := (outM p.a p.now).version, sent := -1 } := by
      unfold confA
      rw [if_pos ⟨by rw [hA]; exact hmep, by show (outM p.a p.now).version ≠ 0; omega⟩, hA]
      simp only [Agt.mk.injEq, true_and, and_true]
      omega
    have hfin : PInv H d B { p with a := confA (outA p.a p.now) ⟨2, (outM p.a p.now).dev, (outM p.a p.now).epoch, (outM p.a p.now).version, [], ⟨#[]⟩, ⟨#[]⟩, ⟨#[]⟩⟩, s := repS H p.s (outM p.a p.now) } := hc.less (l := p.sent) (fun m hm => by simp [hm])
    refine ⟨hfin, rfl, ?_, ?_, rep_des.1, fun e => ?_, ?_, rfl⟩
    · show (repS H p.s (outM p.a p.now)).epoch = (confA _ _).epoch
      rw [hcf, r3]; exact hmep
    · unfold openU
      show (aboveL (confA _ _).items (confA _ _).acked).length ≤ _
      rw [hcf]
      show (aboveL p.a.items (outM p.a p.now).version).length ≤ _
      rw [hmv]
      exact cnt_batch (M := aboveL p.a.items p.a.acked) (List.Perm.refl _) b1
    · have hm2 : mineB p.s (outM p.a p.now) = true := mine_iff'.2 ⟨hkind, by rw [hmdev, h.adev, h.sdev], by rw [hmep]; exact h.sep⟩
      show (repS H p.s (outM p.a p.now)).done = _
      rw [rep_mine hm2, base_same (by rw [hmep]; exact e)]
    · show (repS H p.s (outM p.a p.now)).sent < 0 ∨ _
      rcases rep_sent (H := H) (s := p.s) (m := outM p.a p.now) with e | e
      · left; omega
      · exact .inr e
theorem pen_eq (s : Shd) : (penL s).Perm (aboveL s.desired s.done) := isortR_perm _ _
structure Half2 (H : Hom) (d B : Int) (p q : Ply) : Prop where
  inv : PInv H d (B + 7) q
  now : q.now = p.now
  ep : q.s.epoch = q.a.epoch
  pp : openP q ≤ openP p - 7
  same : openP p = 0 → q = p
  sent : q.sent = p.sent
theorem PInv.half2 {H : Hom} {d B : Int} {p : Ply} (h : PInv H d B p) (h0 : 0 ≤ B) (hB : B + 7 < 1099511627776) (he : p.s.epoch = p.a.epoch) (hd : p.s.sent < 0 ∨ p.s.sent + 10 ≤ p.now) : Half2 H d B p (hal2 H p) := by
  have hnw := h.nw
  have hdue := due_of hd hnw.1 (by omega)
  by_cases hne : penL p.s = []
  · have hb : ¬ psB p.s p.now = true := by unfold psB; simp [hne]
    rw [hal2, if_neg hb]
    exact ⟨h.weak (by omega), rfl, he, by unfold openP; rw [hne]; simp, fun _ => rfl, rfl⟩
  · have hb : psB p.s p.now = true := by unfold psB; rw [decide_eq_true hne, hdue]; rfl
    rw [hal2, if_pos hb]
    have h1 := h.push (by omega) hb
    have hmem : psM p.s p.now ∈ p.sent ++ [psM p.s p.now] := by simp
    have hok := h1.msgs _ hmem
    have hM : psM p.s p.now = batchM 3 p.s.dev p.s.epoch (psL p.s) := by rw [psM, if_pos hb]
    have hS : psS p.s p.now = { p.s with sent := tickI p.now } := by rw [psS, if_pos hb]
    have hkind : (psM p.s p.now).kind = 3 := by rw [hM]; rfl
    have hmep : (psM p.s p.now).epoch = p.s.epoch := by rw [hM]; rfl
    have hmdev : (psM p.s p.now).dev = p.s.dev := by rw [hM]; rfl
    have hmv : (psM p.s p.now).version = lastV ((psL p.s).take 7) := by rw [hM]; rfl
    have ht : takB p.a (psM p.s p.now) = true := by
      unfold takB
      simp only [Bool.and_eq_true, decide_eq_true_eq]
      exact ⟨⟨by rw [hmdev, h.sdev, h.adev], hkind⟩, by rw [hmep]; exact he⟩
    have hta : takA H p.a (psM p.s p.now) = { p.a with items := takL H p.a (psM p.s p.now), applied := max p.a.applied (psM p.s p.now).version, sent := if takL H p.a (psM p.s p.now) = p.a.items then p.a.sent else -1 } := by
      rw [takA, if_neg (by rw [hkind]; omega), if_pos ht]
    have h2 := h1.take h0 hB hok.few hta
    have htm : takM p.a (psM p.s p.now) = ⟨4, (psM p.s p.now).dev, (psM p.s p.now).epoch, (psM p.s p.now).version, [], ⟨#[]⟩, ⟨#[]⟩, ⟨#[]⟩⟩ := by rw [takM, if_pos ht]
    have hv : p.s.done < lastV ((psL p.s).take 7) ∧ lastV ((psL p.s).take 7) ≤ p.s.want := by
      have hne2 : psL p.s ≠ [] := fun e => hne (by
        have := congrArg List.length e
        unfold psL at this
        rw [sortV_length] at this
        exact List.eq_nil_of_length_eq_zero this)
      obtain ⟨y, hy, e⟩ := lastV_mem (take_ne hne2)
      have hy2 := mem_pen.1 (mem_sortV.1 (List.mem_of_mem_take hy))
      rw [← e]
      exact ⟨hy2.2, h.des.top y hy2.1⟩
    have hgs : givS H (psS p.s p.now) (takM p.a (psM p.s p.now)) = { p.s with done := lastV ((psL p.s).take 7), sent := -1 } := by
      rw [htm, givS, if_neg (by unfold givB; simp), if_pos ⟨by rw [hS]; exact hmdev, rfl, by rw [hS]; exact hmep⟩, donS, if_pos (by rw [hS]; exact hmep), hS]
      simp only [Shd.mk.injEq, true_and, and_true]
      rw [hmv]
      omega
    rw [if_pos ht, hgs]
    have h3 := h2.shd (s' := { p.s with done := lastV ((psL p.s).take 7), sent := -1 }) (by rw [hS]) (by rw [hS]) (by rw [hS]) (by rw [hS]) (by rw [hS]) (by show (-1 : Int) ≤ p.now; omega)
    have hfin : PInv H d (B + 7) { p with a := takA H p.a (psM p.s p.now), s := { p.s with done := lastV ((psL p.s).take 7), sent := -1 } } := h3.less (l := p.sent) (fun m hm => by simp [hm])
    refine ⟨hfin, rfl, ?_, ?_, fun e => ?_, rfl⟩
    · show p.s.epoch = (takA H p.a (psM p.s p.now)).epoch
      rw [hta]; exact he
    · unfold openP
      rw [(pen_eq _).length_eq]
      exact cnt_batch (M := penL p.s) (pen_eq _) hv.1
    · exact absurd (List.eq_nil_of_length_eq_zero e) hne
structure Rnd (H : Hom) (d B : Int) (p q : Ply) : Prop where
  inv : PInv H d (B + 20) q
  ep : q.s.epoch = q.a.epoch
  p1 : openP q ≤ (keysL H d).length - 7
  p2 : p.s.epoch = p.a.epoch → openP q ≤ openP p - 7
  u1 : openU q ≤ (keysL H d).length
  u2 : p.s.epoch = p.a.epoch → openP p = 0 → openU q ≤ openU p - 7
  sent : q.sent = p.sent
theorem pen_few {H : Hom} {d B : Int} {p : Ply} (h : PInv H d B p) : openP p ≤ (keysL H d).length := by
  unfold openP
  refine Nat.le_trans (penL_length _) ?_
  have hn := h.des.nodup
  have hs : ∀ x ∈ p.s.desired.map Item.key, x ∈ keysL H d := fun x hx => by
    obtain ⟨y, hy, rfl⟩ := List.mem_map.1 hx
    exact h.des.keys y hy
  have := hn.length_le_of_subset hs
  rwa [List.length_map] at this
theorem items_len {H : Hom} {d B : Int} {p : Ply} (h : PInv H d B p) : p.a.items.length = (keysL H d).length := by
  rw [← h.good.keys, List.length_map]
theorem PInv.round {H : Hom} {d B : Int} {p : Ply} (h : PInv H d B p) (h0 : 0 ≤ B) (hB : B + 20 < 1099511627776) (hk : keysL H d ≠ []) : Rnd H d B p (rndP H p) := by
  have ht := h.time (n := 10) (by omega)
  have ha := h.asent
  have hs := h.ssent
  have h1 := ht.half1 (by omega) hk (.inr (by show p.a.sent + 10 ≤ p.now + 10; omega))
  have hs1 : (hal1 H { p with now := p.now + 10 }).s.sent < 0 ∨ (hal1 H { p with now := p.now + 10 }).s.sent + 10 ≤ (hal1 H { p with now := p.now + 10 }).now := by
    rw [h1.now]
    rcases h1.due with e | e
    · exact .inl e
    · right
      rw [e]
      show p.s.sent + 10 ≤ p.now + 10; omega
  have h2 := h1.inv.half2 (by omega) (by omega) h1.ep hs1
  have e1 : openP (hal1 H { p with now := p.now + 10 }) ≤ (keysL H d).length := pen_few h1.inv
  have e2 : p.s.epoch = p.a.epoch → openP (hal1 H { p with now := p.now + 10 }) = openP p := fun e => by
    unfold openP
    rw [(pen_eq _).length_eq, (pen_eq _).length_eq, h1.des, h1.done e]
  unfold rndP
  have hp := h2.pp
  refine ⟨h2.inv.weak (by omega), h2.ep, by omega, fun e => by have := e2 e; omega, ?_, fun e e0 => ?_, h2.sent.trans h1.sent⟩
  · unfold openU
    exact Nat.le_trans (above_length _ _) (Nat.le_of_eq (items_len h2.inv))
  · have := e2 e
    rw [h2.same (by omega)]
    exact h1.u
end Go.Abs

namespace Go.Abs
open Go.Proofs
variable [Globals]
def movP (H : Hom) (p : Ply) (x : Stp) (k : Key) (m : Msg) : Ply :=
  if x.kind = 0 then { p with a := if locE H p.a k x.value = 0 then locA H p.a k x.value else p.a, now := p.now + 1 }
  else if x.kind = 1 then { p with s := if desE H p.s k x.value = 0 then desS H p.s k x.value else p.s, now := p.now + 1 }
  else if x.kind = 2 then { p with a := outA p.a (p.now + 1), sent := if outB p.a (p.now + 1) = true then p.sent ++ [outM p.a (p.now + 1)] else p.sent, now := p.now + 1 }
  else if x.kind = 3 then { p with s := psS p.s (p.now + 1), sent := if psB p.s (p.now + 1) = true then p.sent ++ [psM p.s (p.now + 1)] else p.sent, now := p.now + 1 }
  else if x.kind = 4 then { p with a := newA H p.a.dev (p.a.epoch + 1), now := p.now + 1 }
  else if 0 < p.sent.length then arrP H { p with now := p.now + 1 } m else { p with now := p.now + 1 }
theorem key_findB {H : Hom} {d : Int} (hk : keysL H d ≠ []) : findB H d = true := by
  cases hb : findB H d with
  | true => rfl
  | false => exact absurd (by rw [keysL, findD_none hb]; rfl) hk
theorem PInv.move {H : Hom} {d B : Int} {p : Ply} (h : PInv H d B p) (h0 : 48 ≤ B) (hB : B + 10 < 1000000000) (hk : keysL H d ≠ []) {x : Stp} {k : Key} {m : Msg} (hm : 0 < p.sent.length → m ∈ p.sent) : PInv H d (B + 10) (movP H p x k m) := by
  have ht := h.time (n := 1) (by omega)
  unfold movP
  split
  · split
    · rename_i he
      exact (ht.loc (by omega) (by omega) he).weak (by omega)
    · exact ht.weak (by omega)
  split
  · split
    · rename_i he
      exact (ht.desr (by omega) he).weak (by omega)
    · exact ht.weak (by omega)
  split
  · split
    · rename_i hb
      exact (ht.out (by omega) hb).weak (by omega)
    · rename_i hb
      rw [outA, if_neg hb]
      exact ht.weak (by omega)
  split
  · split
    · rename_i hb
      exact (ht.push (by omega) hb).weak (by omega)
    · rename_i hb
      rw [psS, if_neg hb]
      exact ht.weak (by omega)
  split
  · exact (ht.start (by omega) hk (key_findB hk)).weak (by omega)
  split
  · rename_i hl
    exact (ht.arrive (by omega) (by omega) hk (ht.msgs m (hm hl))).weak (by omega)
  · exact ht.weak (by omega)
end Go.Abs

namespace Go.Abs
open Go.Proofs
variable [Globals]
theorem putL_keys {l : List Item} {i : Nat} {v : Val} : (putL l i v).map Item.key = l.map Item.key := by
  unfold putL
  split
  · by_cases hi : i < l.length
    · exact set_keys hi rfl
    · rw [List.set_eq_of_length_le (by omega)]
  · rfl
theorem wrI_keys {H : Hom} {l : List Item} {x : Item} : (wrI H l x).map Item.key = l.map Item.key := by
  unfold wrI
  split
  · rename_i h; rw [setL, if_pos h]; exact putL_keys
  · rfl
theorem wrL_keys {H : Hom} : ∀ {ws l : List Item}, (wrL H l ws).map Item.key = l.map Item.key
  | [], _ => rfl
  | x :: ws, l => (wrL_keys (ws := ws) (l := wrI H l x)).trans wrI_keys
theorem wrL_length {H : Hom} {ws l : List Item} : (wrL H l ws).length = l.length := by
  have := congrArg List.length (wrL_keys (H := H) (ws := ws) (l := l)); simpa using this
def mostV (l : List Item) : Nat → Int
  | 0 => (l.getD 0 default).version
  | k + 1 => max (mostV l k) (l.getD k default).version
def lessN (l : List Item) (n : Int) : Nat := (l.filter fun x => decide (x.version < n)).length
structure OneOk (m : Msg) (l : List Item) : Prop where
  some : 1 ≤ m.items.length
  few : m.items.length ≤ 7
  sub : ∀ i, i < m.items.length → m.items.getD i default ∈ l
  asc : ∀ i, 0 < i → i < m.items.length → keyLess (m.items.getD i default).key (m.items.getD (i - 1) default).key = false
  ver : m.version = mostV m.items m.items.length
  less : lessN l m.version < m.items.length
  full : m.items.length = 7 ∨ m.items.length = l.length
end Go.Abs

namespace Go.Abs
open Go.RowKit
variable [Globals]
theorem At.row_sub {P : Program} {w : World} {St M0 : Nat → Prop} {σ : Sig} {l s n m : Nat} {g g' : Nat → List PV} (h : At P w St M0 σ l (.row s n g)) (hn : n = m) (hg : ∀ i, i < n → PSubs (g i) (g' i)) : At P w St M0 σ l (.row s m g') := by
  subst hn
  obtain ⟨loc, h1, h2⟩ := h
  refine ⟨loc, h1, ?_⟩
  cases h2 with
  | row0 _ _ a => exact .row0 _ _ a
  | row _ _ _ b cap vs t hb hn hmax hsz hs hh h9 =>
    refine .row _ _ _ b cap vs t hb hn hmax hsz (fun i hi => ?_) (fun i hi j q hq => ?_) h9
    · rw [← (hg i hi).length]; exact hs i hi
    · obtain ⟨p, hp, hpq⟩ := (hg i hi).get j q hq
      exact hpq.to _ _ _ (hh i hi j p hp)
theorem AC.row_in {P : Program} {f : FuncId} {args : List AV} {os' : Upd} {res : AV} {id s n m : Nat} {g g' : Nat → List PV} (h : AC P f args [(id, .row s m g')] res os') (hn : n = m) (hg : ∀ i, i < n → PSubs (g i) (g' i)) : AC P f args [(id, .row s n g)] res os' := by
  refine ⟨h.1, fun St M0 σ w vals hi hσ hos hl hA => h.2 St M0 σ w vals hi (fun l e => hσ l ?_) (fun l o e => ?_) hl hA⟩
  · rw [getO_cons] at e ⊢
    split
    · rename_i h1; rw [if_pos h1] at e; cases e
    · rfl
  · rw [getO_cons] at e
    split at e
    · rename_i h1
      cases e
      exact (hos l (.row s n g) (by rw [getO_cons, if_pos h1])).row_sub hn hg
    · cases e
end Go.Abs

namespace Go.Abs
open Go.Proofs
set_option maxRecDepth 10000
theorem ac_slices_IndexFunc_Dev (l : List Dev) (gb : List PV → Bool) (gi : List PV → Int) (hl : smallL l) : AC Tryz.prog 111 [.pv (roL 7 cDev l), .clo (fun xs => ∃ x : Dev, xs = [.agg (cDev x)]) true gb gi] [] (.pv (vint (ixI l.length (firstI l.length fun i => gb [.agg (cDev (l.getD i default))])))) [] := by
  have hl : l.length ≤ 1048576 := hl
  refine AC.of_awp (T := T) T_ok hm Tryz.call111 Tryz.func111 rfl rfl rfl ?_
  conv => whnf
  refine loop_k (ι := Nat) [0, 1, 7] [] (fun k => k ≤ l.length ∧ (∀ j, j < k → gb [.agg (cDev (l.getD j default))] = false)) (fun k => l.length - k) 0 (fun k => [(8, .pv (vint k))]) (fun _ => []) [] ⟨Nat.zero_le _, fun j h => absurd h (by omega)⟩ ?_ (fun k hk => ?_)
  · (repeat' (first | exact PSub.rfl | exact rfl | exact PSubs.rfl | exact trivial | exact PSub.lit_sb rfl | refine And.intro ?_ ?_))
  obtain ⟨hkn, hinv⟩ := hk
  conv => whnf
  repeat (any_goals (first
    | (refine ⟨fun (h : (_ : Bool) = true) => ?_, fun (h : (_ : Bool) = false) => ?_⟩ <;> (try simp only [decide_eq_true_eq, decide_eq_false_iff_not, Bool.not_eq_true', Bool.not_eq_false', Int.toNat_natCast, beq_iff_eq, decide_eq_decide, beq_eq_false_iff_ne, ne_eq, reduceCtorEq] at h) <;> (conv => whnf))
    | (refine And.intro (by (try simp only [Int.toNat_natCast]); omega) ?_; conv => whnf)
    | (refine And.intro (show (_ : Bool) = true from by kernel_rfl) ?_; conv => whnf)
    | (refine .inl ⟨wrap64 (by omega), ?_⟩; conv => whnf)))
  refine ⟨⟨_, rfl⟩, ?_⟩
  conv => whnf
  repeat (any_goals (first
    | (refine ⟨fun (h : (_ : Bool) = true) => ?_, fun (h : (_ : Bool) = false) => ?_⟩ <;> (try simp only [decide_eq_true_eq, decide_eq_false_iff_not, Bool.not_eq_true', Bool.not_eq_false', Int.toNat_natCast, beq_iff_eq, decide_eq_decide, beq_eq_false_iff_ne, ne_eq, reduceCtorEq] at h) <;> (conv => whnf))
    | (refine And.intro (by (try simp only [Int.toNat_natCast]); omega) ?_; conv => whnf)
    | (refine And.intro (show (_ : Bool) = true from by kernel_rfl) ?_; conv => whnf)
    | (refine .inl ⟨wrap64 (by omega), ?_⟩; conv => whnf)))
  · exact PSub.int (by rw [firstI_at (k := k) (by omega) h hinv, ixI, if_pos (by omega)])
  · refine ⟨k + 1, [], ⟨by omega, ?_⟩, by first | omega | (dsimp only; omega), ?_⟩
    rotate_left
    · (repeat' (first | exact PSub.rfl | exact rfl | exact PSubs.rfl | exact trivial | exact PSub.lit_sb rfl | refine And.intro ?_ ?_))
    intro j hj
    by_cases e : j = k
    · subst e; exact h
    · exact hinv j (by omega)
  · exact PSub.int (by rw [firstI_none (fun j hj => hinv j (by omega)), ixI, if_neg (Nat.lt_irrefl _)])
theorem ix_any2 {n : Nat} {p : Nat → Bool} : decide (0 ≤ ixI n (firstI n p)) = anyN n p := by
  rcases firstI_cases (n := n) (p := p) with ⟨h1, h2, _⟩ | ⟨h1, h2⟩
  · rw [anyN_true h1 h2, ixI, if_pos h1]; exact decide_eq_true (by omega)
  · rw [anyN_false h2, h1, ixI, if_neg (Nat.lt_irrefl _)]; rfl
theorem ac_slices_ContainsFunc_Dev (l : List Dev) (gb : List PV → Bool) (gi : List PV → Int) (hl : smallL l) : AC Tryz.prog 70 [.pv (roL 7 cDev l), .clo (fun xs => ∃ x : Dev, xs = [.agg (cDev x)]) true gb gi] [] (.pv (vbool (anyN l.length fun i => gb [.agg (cDev (l.getD i default))]))) [] := by
  refine AC.of_awp (T := T) T_ok hm Tryz.call70 Tryz.func70 rfl rfl rfl ?_
  conv => whnf
  repeat (any_goals (first
    | (refine ⟨fun (h : (_ : Bool) = true) => ?_, fun (h : (_ : Bool) = false) => ?_⟩ <;> (try simp only [decide_eq_true_eq, decide_eq_false_iff_not, Bool.not_eq_true', Bool.not_eq_false', Int.toNat_natCast, beq_iff_eq, decide_eq_decide, beq_eq_false_iff_ne, ne_eq, reduceCtorEq] at h) <;> (conv => whnf))
    | (refine .inl ⟨_, ac_slices_IndexFunc_Dev l gb gi hl, ?_⟩; conv => whnf)
    | (refine And.intro (by (try simp only [Int.toNat_natCast]); omega) ?_; conv => whnf)
    | (refine And.intro (show (_ : Bool) = true from by kernel_rfl) ?_; conv => whnf)
    | (refine .inl ⟨wrap64 (by omega), ?_⟩; conv => whnf)))
  exact PSub.sb ix_any2
def itemOf : PV → Item
  | .agg [.val (.int .i64 d), .val (.string c), .val (.string a), .val (.int .i64 k), .val (.int .i64 n), .val (.string s), .val (.int .i64 v)] => ⟨⟨d, c, a⟩, ⟨k, n, s⟩, v⟩
  | _ => default
def cmpOf (lt : Item → Item → Bool) : List PV → Int
  | [x, y] => if lt (itemOf x) (itemOf y) = true then -1 else if lt (itemOf y) (itemOf x) = true then 1 else 0
  | _ => 0
theorem cmpOf_item (lt : Item → Item → Bool) (x y : Item) : cmpOf lt [.agg (cItem x), .agg (cItem y)] = if lt x y = true then -1 else if lt y x = true then 1 else 0 := rfl
theorem cmpOf_s (lt : Item → Item → Bool) : CmpS (cmpOf lt) lt := fun x y => by
  rw [cmpOf_item]
  (repeat' split) <;> simp_all
def tri (a b : Bool) (c : Int) : Int := if a = true then -1 else if b = true then 1 else c
theorem low_tri (x y : Item) : (if lowLt x y = true then (-1 : Int) else if lowLt y x = true then 1 else 0) = tri (keyLess x.key y.key) (keyLess y.key x.key) (tri (decide (x.version < y.version)) (decide (y.version < x.version)) 0) := by
  unfold tri
  by_cases h1 : keyLess x.key y.key = true
  · rw [if_pos (lowLt_true.2 (.inl h1)), if_pos h1]
  · by_cases h2 : keyLess y.key x.key = true
    · have h3 : ¬ lowLt x y = true := by rw [Bool.not_eq_true, lowLt_false]; exact .inl h2
      rw [if_neg h3, if_pos (lowLt_true.2 (.inl h2)), if_neg h1, if_pos h2]
    · have e := keyLess_eq (by simpa using h1) (by simpa using h2)
      rw [if_neg h1, if_neg h2]
      have e1 : (lowLt x y = true) = (decide (x.version < y.version) = true) := by rw [lowLt_true, decide_eq_true_eq, e, keyLess_irrefl]; simp
      have e2 : (lowLt y x = true) = (decide (y.version < x.version) = true) := by rw [lowLt_true, decide_eq_true_eq, e, keyLess_irrefl]; simp
      simp only [e1, e2]
theorem old_tri (x y : Item) : (if oldLt x y = true then (-1 : Int) else if oldLt y x = true then 1 else 0) = tri (decide (x.version < y.version)) (decide (y.version < x.version)) (if lowLt x y = true then -1 else if lowLt y x = true then 1 else 0) := by
  rw [low_tri]
  unfold tri
  by_cases h1 : x.version < y.version
  · rw [if_pos (oldLt_true.2 (.inl h1)), if_pos (decide_eq_true h1)]
  · by_cases h2 : y.version < x.version
    · have h3 : ¬ oldLt x y = true := by rw [Bool.not_eq_true, oldLt_false]; exact .inl h2
      rw [if_neg h3, if_pos (oldLt_true.2 (.inl h2)), if_neg (by simpa using h1), if_pos (decide_eq_true h2)]
    · have e : x.version = y.version := by omega
      have e1 : (oldLt x y = true) = (keyLess x.key y.key = true) := by rw [oldLt_true]; simp [e]
      have e2 : (oldLt y x = true) = (keyLess y.key x.key = true) := by rw [oldLt_true]; simp [e]
      simp only [e1, e2, e, Int.lt_irrefl, decide_false, Bool.false_eq_true, if_false]
theorem tick_range (n : Int) : 0 ≤ tickI n ∧ tickI n ≤ 1099511627776 := by unfold tickI; omega
theorem ac_sync_tick (n : Int) : AC Tryz.prog 56 [.pv (vint n)] [] (.pv (vint (tickI n))) [] := by
  refine AC.of_awp (T := T) T_ok hm Tryz.call56 Tryz.func56 rfl rfl rfl ?_
  conv => whnf
  repeat (any_goals (first
    | (refine ⟨fun (h : (_ : Bool) = true) => ?_, fun (h : (_ : Bool) = false) => ?_⟩ <;> (try simp only [decide_eq_true_eq, decide_eq_false_iff_not, Bool.not_eq_true', Bool.not_eq_false', Int.toNat_natCast, beq_iff_eq, decide_eq_decide, beq_eq_false_iff_ne, ne_eq, reduceCtorEq] at h) <;> (conv => whnf))
    | (refine And.intro (by (try simp only [Int.toNat_natCast]); omega) ?_; conv => whnf)
    | (refine And.intro (show (_ : Bool) = true from by kernel_rfl) ?_; conv => whnf)
    | (refine .inl ⟨wrap64 (by omega), ?_⟩; conv => whnf)))
  all_goals exact PSub.int (by unfold tickI; simp only [Int.max_def, Int.min_def]; (repeat' split) <;> omega)
theorem ac_sync_due (sent now : Int) (hn : 0 ≤ now ∧ now ≤ 1099511627776) : AC Tryz.prog 59 [.pv (vint sent), .pv (vint now)] [] (.pv (vbool (dueB sent now))) [] := by
  refine AC.of_awp (T := T) T_ok hm Tryz.call59 Tryz.func59 rfl rfl rfl ?_
  conv => whnf
  repeat (any_goals (first
    | (refine ⟨fun (h : (_ : Bool) = true) => ?_, fun (h : (_ : Bool) = false) => ?_⟩ <;> (try simp only [decide_eq_true_eq, decide_eq_false_iff_not, Bool.not_eq_true', Bool.not_eq_false', Int.toNat_natCast, beq_iff_eq, decide_eq_decide, beq_eq_false_iff_ne, ne_eq, reduceCtorEq] at h) <;> (conv => whnf))
    | (refine And.intro (by (try simp only [Int.toNat_natCast]); omega) ?_; conv => whnf)
    | (refine And.intro (show (_ : Bool) = true from by kernel_rfl) ?_; conv => whnf)
    | (refine .inl ⟨wrap64 (by omega), ?_⟩; conv => whnf)))
  all_goals first
    | (refine PSub.lit_sb ?_; unfold dueB; rw [Bool.eq_iff_iff]; simp; omega)
    | (refine PSub.sb ?_; unfold dueB; rw [Bool.eq_iff_iff]; simp; omega)
    | trace_state
theorem ac_sync_byKey (x y : Item) : AC Tryz.prog 104 [.pv (.agg (cItem x)), .pv (.agg (cItem y))] [] (.pv (vint (cmpOf lowLt [.agg (cItem x), .agg (cItem y)]))) [] := by
  rw [cmpOf_item, low_tri]
  refine AC.of_awp (T := T) T_ok hm Tryz.call104 Tryz.func104 rfl rfl rfl ?_
  conv => whnf
  repeat (any_goals (first
    | (refine ⟨fun (h : (_ : Bool) = true) => ?_, fun (h : (_ : Bool) = false) => ?_⟩ <;> (try simp only [decide_eq_true_eq, decide_eq_false_iff_not, Bool.not_eq_true', Bool.not_eq_false', Int.toNat_natCast, beq_iff_eq, decide_eq_decide, beq_eq_false_iff_ne, ne_eq, reduceCtorEq] at h) <;> (conv => whnf))
    | (refine .inl ⟨_, ac_device_Less x.key y.key, ?_⟩; conv => whnf)
    | (refine .inl ⟨_, ac_device_Less y.key x.key, ?_⟩; conv => whnf)
    | (refine And.intro (by (try simp only [Int.toNat_natCast]); omega) ?_; conv => whnf)
    | (refine And.intro (show (_ : Bool) = true from by kernel_rfl) ?_; conv => whnf)
    | (refine .inl ⟨wrap64 (by omega), ?_⟩; conv => whnf)))
  all_goals exact PSub.int (by unfold tri; simp [*])
theorem ac_sync_byVersion (x y : Item) : AC Tryz.prog 92 [.pv (.agg (cItem x)), .pv (.agg (cItem y))] [] (.pv (vint (cmpOf oldLt [.agg (cItem x), .agg (cItem y)]))) [] := by
  have c := ac_sync_byKey x y
  rw [cmpOf_item] at c
  rw [cmpOf_item, old_tri]
  refine AC.of_awp (T := T) T_ok hm Tryz.call92 Tryz.func92 rfl rfl rfl ?_
  conv => whnf
  repeat (any_goals (first
    | (refine ⟨fun (h : (_ : Bool) = true) => ?_, fun (h : (_ : Bool) = false) => ?_⟩ <;> (try simp only [decide_eq_true_eq, decide_eq_false_iff_not, Bool.not_eq_true', Bool.not_eq_false', Int.toNat_natCast, beq_iff_eq, decide_eq_decide, beq_eq_false_iff_ne, ne_eq, reduceCtorEq] at h) <;> (conv => whnf))
    | (refine .inl ⟨_, c, ?_⟩; conv => whnf)
    | (refine And.intro (by (try simp only [Int.toNat_natCast]); omega) ?_; conv => whnf)
    | (refine And.intro (show (_ : Bool) = true from by kernel_rfl) ?_; conv => whnf)
    | (refine .inl ⟨wrap64 (by omega), ?_⟩; conv => whnf)))
  all_goals exact PSub.int (by unfold tri; simp [*])
theorem ac_sync_own (a : Agt) (ha : smallL a.items) : AC Tryz.prog 43 [.pv (.agg (cAgt a))] [] (.pv (.agg (cAgt a))) [] := by
  have h1 : a.items.length ≤ 1048576 := ha
  refine AC.of_awp (T := T) T_ok hm Tryz.call43 Tryz.func43 rfl rfl rfl ?_
  conv => whnf
  repeat (any_goals (first
    | (refine ⟨fun (h : (_ : Bool) = true) => ?_, fun (h : (_ : Bool) = false) => ?_⟩ <;> (try simp only [decide_eq_true_eq, decide_eq_false_iff_not, Bool.not_eq_true', Bool.not_eq_false', Int.toNat_natCast, beq_iff_eq, decide_eq_decide, beq_eq_false_iff_ne, ne_eq, reduceCtorEq] at h) <;> (conv => whnf))
    | (refine .inr (.inl ⟨_, _, _, ac_slices_Clone_Item _ _ h1, ?_⟩); conv => whnf)
    | (refine And.intro (by (try simp only [Int.toNat_natCast]); omega) ?_; conv => whnf)
    | (refine And.intro (show (_ : Bool) = true from by kernel_rfl) ?_; conv => whnf)
    | (refine .inl ⟨wrap64 (by omega), ?_⟩; conv => whnf)))
  exact .rfl
theorem ac_sync_held (s : Shd) (hs : smallSh s) : AC Tryz.prog 53 [.pv (.agg (cShd s))] [] (.pv (.agg (cShd s))) [] := by
  have h1 : s.reported.length ≤ 1048576 := hs.1
  have h2 : s.desired.length ≤ 1048576 := hs.2
  refine AC.of_awp (T := T) T_ok hm Tryz.call53 Tryz.func53 rfl rfl rfl ?_
  conv => whnf
  repeat (any_goals (first
    | (refine ⟨fun (h : (_ : Bool) = true) => ?_, fun (h : (_ : Bool) = false) => ?_⟩ <;> (try simp only [decide_eq_true_eq, decide_eq_false_iff_not, Bool.not_eq_true', Bool.not_eq_false', Int.toNat_natCast, beq_iff_eq, decide_eq_decide, beq_eq_false_iff_ne, ne_eq, reduceCtorEq] at h) <;> (conv => whnf))
    | (refine .inr (.inl ⟨_, _, _, ac_slices_Clone_Item _ _ h1, ?_⟩); conv => whnf)
    | (refine .inr (.inl ⟨_, _, _, ac_slices_Clone_Item _ _ h2, ?_⟩); conv => whnf)
    | (refine And.intro (by (try simp only [Int.toNat_natCast]); omega) ?_; conv => whnf)
    | (refine And.intro (show (_ : Bool) = true from by kernel_rfl) ?_; conv => whnf)
    | (refine .inl ⟨wrap64 (by omega), ?_⟩; conv => whnf)))
  exact .rfl
theorem ac_r26_Alike (a b : Msg) (ha : smallL a.items) : AC Tryz.prog 15 [.pv (.agg (cMsg a)), .pv (.agg (cMsg b))] [] (.pv (vbool (decide (a = b)))) [] := by
  have h1 : a.items.length ≤ 1048576 := ha
  obtain ⟨a1, a2, a3, a4, a5, a6, a7, a8⟩ := a
  obtain ⟨b1, b2, b3, b4, b5, b6, b7, b8⟩ := b
  dsimp only at h1
  refine AC.of_awp (T := T) T_ok hm Tryz.call15 Tryz.func15 rfl rfl rfl ?_
  conv => whnf
  repeat (any_goals (first
    | (refine ⟨fun (h : (_ : Bool) = true) => ?_, fun (h : (_ : Bool) = false) => ?_⟩ <;> (try simp only [decide_eq_true_eq, decide_eq_false_iff_not, Bool.not_eq_true', Bool.not_eq_false', Int.toNat_natCast, beq_iff_eq, decide_eq_decide, beq_eq_false_iff_ne, ne_eq, reduceCtorEq] at h) <;> (conv => whnf))
    | (refine .inl ⟨_, ac_r22_Same a5 b5 (by omega), ?_⟩; conv => whnf)
    | (refine And.intro (by (try simp only [Int.toNat_natCast]); omega) ?_; conv => whnf)
    | (refine And.intro (show (_ : Bool) = true from by kernel_rfl) ?_; conv => whnf)
    | (refine .inl ⟨wrap64 (by omega), ?_⟩; conv => whnf)))
  all_goals first
    | (refine PSub.sb ?_; simp_all; done)
    | (refine PSub.lit_sb ?_; symm; simp_all; done)
    | (refine PSub.lit_sb ?_; simp_all; done)
    | trace_state
end Go.Abs

namespace Go.Abs
open Go.Proofs
set_option maxRecDepth 10000
theorem ac_sync_Out_1 (x : Item) (a : Agt) : AC Tryz.prog 68 [.pv (.agg (cItem x)), .pv (.cell (cAgt a))] [] (.pv (vbool (decide (a.acked < x.version)))) [] := by
  refine AC.of_awp (T := T) T_ok hm Tryz.call68 Tryz.func68 rfl rfl rfl ?_
  conv => whnf
  exact .rfl
theorem ac_sync_Take_1 (x : Item) (a : Agt) : AC Tryz.prog 46 [.pv (.agg (cItem x)), .pv (.cell (cAgt a))] [] (.pv (vbool (decide (a.applied < x.version)))) [] := by
  refine AC.of_awp (T := T) T_ok hm Tryz.call46 Tryz.func46 rfl rfl rfl ?_
  conv => whnf
  exact .rfl
theorem ac_sync_pick_Out (a : Agt) (l : List Item) (hl : smallL l) : AC Tryz.prog 45 [.pv (roL 7 cItem l), .fn 68 [.ptr 900000 0]] [(900000, .pbox (cAgt a))] (.own 1) [(900000, .pbox (cAgt a)), (1, rowL 7 cItem (sortV (aboveL l a.acked)))] := by
  have hl : l.length ≤ 1048576 := hl
  have hc := fun x => ac_sync_Out_1 x a
  obtain ⟨p, hpd⟩ : ∃ p : Item → Bool, p = fun x => decide (a.acked < x.version) := ⟨_, rfl⟩
  have hp : ∀ x : Item, a.acked < x.version → p x = true := fun x h => by rw [hpd]; exact decide_eq_true h
  have hq : ∀ x : Item, ¬ a.acked < x.version → ¬ p x = true := fun x h => by rw [hpd]; simpa using h
  have hab : aboveL l a.acked = l.filter p := by rw [hpd]; rfl
  rw [hab]
  clear hpd hab
  refine AC.of_awp_gen (T := T) T_ok hm Tryz.call45 Tryz.func45 rfl rfl rfl rfl rfl rfl ?_
  conv => whnf
  refine loop_k (ι := Nat) [1, 8, 9] [900000] (fun k => k ≤ l.length ∧ True) (fun k => l.length - k) 0 (fun k => [(5, .own 500), (10, .pv (vint k))]) (fun k => [(500, rowL 7 cItem ((l.take k).filter p))]) [] ⟨Nat.zero_le _, trivial⟩ ?_ (fun k hk => ?_)
  · (repeat' (first | exact PSub.rfl | exact rfl | exact PSubs.rfl | exact trivial | exact PSub.lit_sb rfl | refine And.intro ?_ ?_))
  obtain ⟨hkn, hinv⟩ := hk
  conv => whnf
  have hfl := fil_length p l k
  repeat (any_goals (first
    | (refine ⟨fun (h : (_ : Bool) = true) => ?_, fun (h : (_ : Bool) = false) => ?_⟩ <;> (try simp only [decide_eq_true_eq, decide_eq_false_iff_not, Bool.not_eq_true', Bool.not_eq_false', Int.toNat_natCast, beq_iff_eq, decide_eq_decide, beq_eq_false_iff_ne, ne_eq, reduceCtorEq] at h) <;> (conv => whnf))
    | (refine .inl ⟨_, hc (l.getD k default), ?_⟩; conv => whnf)
    | (refine And.intro (by (try simp only [Int.toNat_natCast]); omega) ?_; conv => whnf)
    | (refine And.intro (show (_ : Bool) = true from by kernel_rfl) ?_; conv => whnf)
    | (refine .inl ⟨wrap64 (by omega), ?_⟩; conv => whnf)))
  · have hfs := fil_snoc p (l := l) (k := k) (by omega)
    rw [if_pos (hp _ h)] at hfs
    refine ⟨k + 1, [(500, 20)], ⟨by omega, trivial⟩, by omega, ?_⟩
    rw [hfs]
    (repeat' (first | exact PSub.rfl | exact rfl | exact PSubs.rfl | exact trivial | exact PSub.lit_sb rfl | refine And.intro ?_ ?_))
    · simp [-List.getD_eq_getElem?_getD]
    · refine rows_snocF (fun i hi => by simp only [if_pos hi]; exact PSubs.rfl) (by simp only [if_neg (Nat.lt_irrefl _), Nat.sub_self]; exact PSubs.rfl)
  · have hfs := fil_snoc p (l := l) (k := k) (by omega)
    rw [if_neg (hq _ h), List.append_nil] at hfs
    refine ⟨k + 1, [], ⟨by omega, trivial⟩, by omega, ?_⟩
    rw [hfs]
    (repeat' (first | exact PSub.rfl | exact rfl | exact PSubs.rfl | exact trivial | exact PSub.lit_sb rfl | refine And.intro ?_ ?_))
    all_goals (intro i hi; exact PSubs.rfl)
  · have e : k = l.length := by omega
    subst e
    rw [List.take_length] at *
    have c := ac_slices_SortStableFunc_Item 92 Tryz.call92 (cmpOf oldLt) oldLt oldLt_swo (cmpOf_s oldLt) ac_sync_byVersion (l.filter p) (by omega)
    repeat (any_goals (first
      | (refine ⟨fun (h : (_ : Bool) = true) => ?_, fun (h : (_ : Bool) = false) => ?_⟩ <;> (try simp only [decide_eq_true_eq, decide_eq_false_iff_not, Bool.not_eq_true', Bool.not_eq_false', Int.toNat_natCast, beq_iff_eq, decide_eq_decide, beq_eq_false_iff_ne, ne_eq, reduceCtorEq] at h) <;> (conv => whnf))
      | (refine .inr (.inr (.inr (.inr ⟨[(900000, 500)], [], _, _, _, c, rfl, ?_⟩))); conv => whnf)
      | (refine And.intro (by (try simp only [Int.toNat_natCast]); omega) ?_; conv => whnf)
      | (refine And.intro (show (_ : Bool) = true from by kernel_rfl) ?_; conv => whnf)
      | (refine .inl ⟨wrap64 (by omega), ?_⟩; conv => whnf)))
    refine ⟨[(1, 500)], ?_⟩
    (repeat' (first | exact PSub.rfl | exact rfl | exact PSubs.rfl | exact trivial | exact PSub.lit_sb rfl | refine And.intro ?_ ?_))
    all_goals (intro i hi; exact PSubs.rfl)
theorem ac_sync_pick_Take (a : Agt) (l : List Item) (hl : smallL l) : AC Tryz.prog 45 [.pv (roL 7 cItem l), .fn 46 [.ptr 900000 0]] [(900000, .pbox (cAgt a))] (.own 1) [(900000, .pbox (cAgt a)), (1, rowL 7 cItem (sortV (aboveL l a.applied)))] := by
  have hl : l.length ≤ 1048576 := hl
  have hc := fun x => ac_sync_Take_1 x a
  obtain ⟨p, hpd⟩ : ∃ p : Item → Bool, p = fun x => decide (a.applied < x.version) := ⟨_, rfl⟩
  have hp : ∀ x : Item, a.applied < x.version → p x = true := fun x h => by rw [hpd]; exact decide_eq_true h
  have hq : ∀ x : Item, ¬ a.applied < x.version → ¬ p x = true := fun x h => by rw [hpd]; simpa using h
  have hab : aboveL l a.applied = l.filter p := by rw [hpd]; rfl
  rw [hab]
  clear hpd hab
  refine AC.of_awp_gen (T := T) T_ok hm Tryz.call45 Tryz.func45 rfl rfl rfl rfl rfl rfl ?_
  conv => whnf
  refine loop_k (ι := Nat) [1, 8, 9] [900000] (fun k => k ≤ l.length ∧ True) (fun k => l.length - k) 0 (fun k => [(5, .own 500), (10, .pv (vint k))]) (fun k => [(500, rowL 7 cItem ((l.take k).filter p))]) [] ⟨Nat.zero_le _, trivial⟩ ?_ (fun k hk => ?_)
  · (repeat' (first | exact PSub.rfl | exact rfl | exact PSubs.rfl | exact trivial | exact PSub.lit_sb rfl | refine And.intro ?_ ?_))
  obtain ⟨hkn, hinv⟩ := hk
  conv => whnf
  have hfl := fil_length p l k
  repeat (any_goals (first
    | (refine ⟨fun (h : (_ : Bool) = true) => ?_, fun (h : (_ : Bool) = false) => ?_⟩ <;> (try simp only [decide_eq_true_eq, decide_eq_false_iff_not, Bool.not_eq_true', Bool.not_eq_false', Int.toNat_natCast, beq_iff_eq, decide_eq_decide, beq_eq_false_iff_ne, ne_eq, reduceCtorEq] at h) <;> (conv => whnf))
    | (refine .inl ⟨_, hc (l.getD k default), ?_⟩; conv => whnf)
    | (refine And.intro (by (try simp only [Int.toNat_natCast]); omega) ?_; conv => whnf)
    | (refine And.intro (show (_ : Bool) = true from by kernel_rfl) ?_; conv => whnf)
    | (refine .inl ⟨wrap64 (by omega), ?_⟩; conv => whnf)))
  · have hfs := fil_snoc p (l := l) (k := k) (by omega)
    rw [if_pos (hp _ h)] at hfs
    refine ⟨k + 1, [(500, 20)], ⟨by omega, trivial⟩, by omega, ?_⟩
    rw [hfs]
    (repeat' (first | exact PSub.rfl | exact rfl | exact PSubs.rfl | exact trivial | exact PSub.lit_sb rfl | refine And.intro ?_ ?_))
    · simp [-List.getD_eq_getElem?_getD]
    · refine rows_snocF (fun i hi => by simp only [if_pos hi]; exact PSubs.rfl) (by simp only [if_neg (Nat.lt_irrefl _), Nat.sub_self]; exact PSubs.rfl)
  · have hfs := fil_snoc p (l := l) (k := k) (by omega)
    rw [if_neg (hq _ h), List.append_nil] at hfs
    refine ⟨k + 1, [], ⟨by omega, trivial⟩, by omega, ?_⟩
    rw [hfs]
    (repeat' (first | exact PSub.rfl | exact rfl | exact PSubs.rfl | exact trivial | exact PSub.lit_sb rfl | refine And.intro ?_ ?_))
    all_goals (intro i hi; exact PSubs.rfl)
  · have e : k = l.length := by omega
    subst e
    rw [List.take_length] at *
    have c := ac_slices_SortStableFunc_Item 92 Tryz.call92 (cmpOf oldLt) oldLt oldLt_swo (cmpOf_s oldLt) ac_sync_byVersion (l.filter p) (by omega)
    repeat (any_goals (first
      | (refine ⟨fun (h : (_ : Bool) = true) => ?_, fun (h : (_ : Bool) = false) => ?_⟩ <;> (try simp only [decide_eq_true_eq, decide_eq_false_iff_not, Bool.not_eq_true', Bool.not_eq_false', Int.toNat_natCast, beq_iff_eq, decide_eq_decide, beq_eq_false_iff_ne, ne_eq, reduceCtorEq] at h) <;> (conv => whnf))
      | (refine .inr (.inr (.inr (.inr ⟨[(900000, 500)], [], _, _, _, c, rfl, ?_⟩))); conv => whnf)
      | (refine And.intro (by (try simp only [Int.toNat_natCast]); omega) ?_; conv => whnf)
      | (refine And.intro (show (_ : Bool) = true from by kernel_rfl) ?_; conv => whnf)
      | (refine .inl ⟨wrap64 (by omega), ?_⟩; conv => whnf)))
    refine ⟨[(1, 500)], ?_⟩
    (repeat' (first | exact PSub.rfl | exact rfl | exact PSubs.rfl | exact trivial | exact PSub.lit_sb rfl | refine And.intro ?_ ?_))
    all_goals (intro i hi; exact PSubs.rfl)
theorem batch_lastI {l : List Item} (h : l ≠ []) : 0 < (l.take 7).length := List.length_pos_iff.2 (take_ne h)
theorem ac_sync_batch (kind dev epoch : Int) (l : List Item) (hl : smallL l) (hne : l ≠ []) : AC Tryz.prog 60 [.pv (vint kind), .pv (vint dev), .pv (vint epoch), .pv (roL 7 cItem l)] [] (.pv (.agg (cMsg (batchM kind dev epoch l)))) [] := by
  have hl : l.length ≤ 1048576 := hl
  have h0 : 0 < l.length := List.length_pos_iff.2 hne
  refine AC.of_awp (T := T) T_ok hm Tryz.call60 Tryz.func60 rfl rfl rfl ?_
  conv => whnf
  have hn : (if (7 : Int) < (l.length : Int) then (7 : Int) else (l.length : Int)).toNat = (l.take 7).length := by rw [List.length_take]; split <;> omega
  have hl7 : (l.take 7).length ≤ 1048576 := by rw [List.length_take]; omega
  have hpos := batch_lastI hne
  have c := AC.row_in (n := (if (7 : Int) < (l.length : Int) then (7 : Int) else (l.length : Int)).toNat) (g := fun i => cItem (l.getD i default)) (ac_slices_SortStableFunc_Item 104 Tryz.call104 (cmpOf lowLt) lowLt lowLt_swo (cmpOf_s lowLt) ac_sync_byKey (l.take 7) hl7) hn (fun i hi => by
    have : i < 7 := by rw [hn, List.length_take] at hi; omega
    rw [getD_take_lt this]; exact PSubs.rfl)
  repeat (any_goals (first
    | (refine ⟨fun (h : (_ : Bool) = true) => ?_, fun (h : (_ : Bool) = false) => ?_⟩ <;> (try simp only [decide_eq_true_eq, decide_eq_false_iff_not, Bool.not_eq_true', Bool.not_eq_false', Int.toNat_natCast, beq_iff_eq, decide_eq_decide, beq_eq_false_iff_ne, ne_eq, reduceCtorEq] at h) <;> (conv => whnf))
    | (refine .inr (.inl ⟨_, _, _, ac_slices_Clone_Item _ _ (by omega), ?_⟩); conv => whnf)
    | (refine .inr (.inr (.inr (.inr ⟨[(900000, 15)], [], _, _, _, c, rfl, ?_⟩))); conv => whnf)
    | (refine And.intro (by (try simp only [Int.toNat_natCast]); omega) ?_; conv => whnf)
    | (refine And.intro (show (_ : Bool) = true from by kernel_rfl) ?_; conv => whnf)
    | (refine .inl ⟨wrap64 (by omega), ?_⟩; conv => whnf)))
  refine PSub.agg ⟨.rfl, .rfl, .rfl, PSub.int ?_, .rfl, .rfl, .rfl, .rfl, trivial⟩
  show _ = lastV (l.take 7)
  unfold lastV
  rw [getD_take_lt (by rw [List.length_take] at hpos ⊢; omega), ← hn]
  congr 2
  omega
end Go.Abs

namespace Go.Abs
open Go.Proofs
variable [Globals]
theorem wrL_snoc {H : Hom} {l ws : List Item} {k : Nat} (h : k < ws.length) : wrL H l (ws.take (k + 1)) = wrI H (wrL H l (ws.take k)) (ws.getD k default) := by
  unfold wrL
  rw [take_succ_getD h, List.foldl_append]; rfl
theorem great_snoc {l : List Item} {k : Nat} (h0 : 0 < k) (h : k < l.length) : greatI (l.take (k + 1)) = max (greatI (l.take k)) (l.getD k default).version := by
  rw [take_succ_getD h]
  cases l with
  | nil => cases h
  | cons y l =>
    obtain ⟨k, rfl⟩ : ∃ j, k = j + 1 := ⟨k - 1, by omega⟩
    rw [List.take_succ_cons, List.cons_append]
    show (l.take k ++ [_]).foldl _ _ = _
    rw [List.foldl_append]; rfl
theorem great_one {l : List Item} (h : 0 < l.length) : greatI (l.take 1) = (l.getD 0 default).version := by
  cases l with
  | nil => cases h
  | cons y l => rfl
end Go.Abs

namespace Go.Abs
open Go.Proofs
set_option maxRecDepth 10000
theorem ac_slices_Equal_Item (a b : List Item) (ha : a.length ≤ 1048576) : AC Tryz.prog 48 [.pv (roL 7 cItem a), .pv (roL 7 cItem b)] [] (.pv (vbool (decide (a = b)))) [] := by
  refine AC.of_awp (T := T) T_ok hm Tryz.call48 Tryz.func48 rfl rfl rfl ?_
  conv => whnf
  refine ⟨fun h => ?_, fun h => ?_⟩ <;> (try simp only [decide_eq_true_eq, decide_eq_false_iff_not, Bool.not_eq_true', Bool.not_eq_false', Int.toNat_natCast, beq_iff_eq, decide_eq_decide, beq_eq_false_iff_ne, ne_eq, reduceCtorEq] at h) <;> (conv => whnf)
  · exact PSub.lit_sb (by symm; simp only [decide_eq_false_iff_not]; intro e; exact h (by rw [e]))
  refine loop_k (ι := Nat) [0, 1, 12] [] (fun k => k ≤ a.length ∧ (∀ j, j < k → a.getD j default = b.getD j default)) (fun k => a.length - k) 0 (fun k => [(13, .pv (vint k))]) (fun _ => []) [] ⟨Nat.zero_le _, fun j h => absurd h (by omega)⟩ ?_ (fun k hk => ?_)
  · (repeat' (first | exact PSub.rfl | exact rfl | exact PSubs.rfl | exact trivial | exact PSub.lit_sb rfl | refine And.intro ?_ ?_))
  obtain ⟨hkn, hinv⟩ := hk
  conv => whnf
  repeat (any_goals (first
    | (refine ⟨fun (h : (_ : Bool) = true) => ?_, fun (h : (_ : Bool) = false) => ?_⟩ <;> (try simp only [decide_eq_true_eq, decide_eq_false_iff_not, Bool.not_eq_true', Bool.not_eq_false', Int.toNat_natCast, beq_iff_eq, decide_eq_decide, beq_eq_false_iff_ne, ne_eq, reduceCtorEq] at h) <;> (conv => whnf))
    | (refine And.intro (by (try simp only [Int.toNat_natCast]); omega) ?_; conv => whnf)
    | (refine And.intro (show (_ : Bool) = true from by kernel_rfl) ?_; conv => whnf)
    | (refine .inl ⟨wrap64 (by omega), ?_⟩; conv => whnf)))
  · have e := of_decide_eq_false ((item_eq _ _).symm.trans h)
    exact PSub.lit_sb (by symm; rw [decide_eq_false_iff_not]; rintro rfl; exact e rfl)
  · have e := of_decide_eq_true ((item_eq _ _).symm.trans h)
    refine ⟨k + 1, [], ⟨by omega, ?_⟩, by first | omega | (dsimp only; omega), ?_⟩
    rotate_left
    · (repeat' (first | exact PSub.rfl | exact rfl | exact PSubs.rfl | exact trivial | exact PSub.lit_sb rfl | refine And.intro ?_ ?_))
    intro j hj
    by_cases e2 : j = k
    · subst e2; exact e
    · exact hinv j (by omega)
  · exact PSub.lit_sb (by symm; rw [decide_eq_true_eq]; exact list_eq (by omega) fun i hi => hinv i (by omega))
end Go.Abs

namespace Go.Abs
open Go.Proofs
set_option maxRecDepth 10000
theorem noAgt_cells : PSub (.agg [vint 0, vint 0, vint 0, vint 0, vint 0, .val (.slice none 0 0)]) (.agg (cAgt noAgt)) := PSub.agg ⟨.rfl, .rfl, .rfl, .rfl, .rfl, PSub.nil_ro _ _, trivial⟩
theorem noMsg_cells : PSub (.agg [vint 0, vint 0, vint 0, vint 0, .val (.slice none 0 0), vstr ⟨#[]⟩, vstr ⟨#[]⟩, vstr ⟨#[]⟩]) (.agg (cMsg noMsg)) := PSub.agg ⟨.rfl, .rfl, .rfl, .rfl, PSub.nil_ro _ _, .rfl, .rfl, .rfl, trivial⟩
theorem ac_sync_New_1 (d : Dev) (id : Int) : AC Tryz.prog 71 [.pv (.agg (cDev d)), .pv (.cell [vint id])] [] (.pv (vbool (decide (d.id = id)))) [] := by
  refine AC.of_awp (T := T) T_ok hm Tryz.call71 Tryz.func71 rfl rfl rfl ?_
  conv => whnf
  exact .rfl
noncomputable def devG (id : Int) : List PV → Bool := fun xs => match xs with
  | [.agg (.val (.int _ i) :: _)] => decide (i = id)
  | _ => false
theorem ac_sync_ContainsFunc (l : List Dev) (id : Int) (hl : smallL l) : AC Tryz.prog 70 [.pv (roL 7 cDev l), .fn 71 [.pv (.cell [vint id])]] [] (.pv (vbool (anyN l.length fun i => decide ((l.getD i default).id = id)))) [] := by
  refine AC.with_fn (pre := [.pv (roL 7 cDev l)]) (post := []) (ac_slices_ContainsFunc_Dev l (devG id) (fun _ => 0) hl) Tryz.call71 rfl rfl rfl ?_
  rintro xs ⟨x, rfl⟩
  exact ac_sync_New_1 x id
theorem any_devAt (l : List Dev) (id : Int) : (anyN l.length fun i => decide ((l.getD i default).id = id)) = decide (devAt l id < l.length) := by
  rw [← ix_any2]
  unfold devAt ixI
  rw [decide_eq_decide]
  split <;> omega
theorem ac_sync_New (H : Hom) (dev epoch : Int) (hH : smallH H) : AC Tryz.prog 28 [.pv (.agg (cHom H)), .pv (vint dev), .pv (vint epoch)] [] (.pv (.agg (cAgt (newA H dev epoch)))) [] := by
  have c := ac_sync_ContainsFunc H.devices dev hH.2.1
  rw [any_devAt] at c
  have hf : findB H dev = (decide (homE H = 0) && decide (devAt H.devices dev < H.devices.length)) := rfl
  refine AC.of_awp (T := T) T_ok hm Tryz.call28 Tryz.func28 rfl rfl rfl ?_
  conv => whnf
  repeat (any_goals (first
    | (refine ⟨fun (h : (_ : Bool) = true) => ?_, fun (h : (_ : Bool) = false) => ?_⟩ <;> (try simp only [decide_eq_true_eq, decide_eq_false_iff_not, Bool.not_eq_true', Bool.not_eq_false', Int.toNat_natCast, beq_iff_eq, decide_eq_decide, beq_eq_false_iff_ne, ne_eq, reduceCtorEq] at h) <;> (conv => whnf))
    | (refine .inl ⟨_, ac_device_Check H hH, ?_⟩; conv => whnf)
    | (refine .inl ⟨_, c, ?_⟩; conv => whnf)
    | (refine .inl ⟨_, ac_sync_tick epoch, ?_⟩; conv => whnf)
    | (refine .inl ⟨_, ac_device_Init H dev hH, ?_⟩; conv => whnf)
    | (refine And.intro (by (try simp only [Int.toNat_natCast]); omega) ?_; conv => whnf)
    | (refine And.intro (show (_ : Bool) = true from by kernel_rfl) ?_; conv => whnf)
    | (refine .inl ⟨wrap64 (by omega), ?_⟩; conv => whnf)))
  all_goals
    unfold newA
    rw [hf]
    simp only [*, decide_true, decide_false, Bool.and_false, Bool.false_and, Bool.and_true, if_true, if_false, Bool.false_eq_true]
    first
      | exact noAgt_cells
      | exact .rfl
      | trace_state
theorem outL_small {a : Agt} (ha : smallL a.items) : smallL (outL a) := by
  have h1 : a.items.length ≤ 1048576 := ha
  have h2 := above_length a.items a.acked
  show (sortV _).length ≤ 1048576
  rw [sortV_length]; omega
theorem out_no {a : Agt} {now : Int} (h : outB a now = false) : outA a now = a ∧ outM a now = noMsg := by
  rw [outA, outM, if_neg (by rw [h]; decide), if_neg (by rw [h]; decide)]; exact ⟨rfl, rfl⟩
theorem out_yes {a : Agt} {now : Int} (h : outB a now = true) : outA a now = { a with sent := tickI now } ∧ outM a now = batchM 1 a.dev a.epoch (outL a) := by
  rw [outA, outM, if_pos h, if_pos h]; exact ⟨rfl, rfl⟩
theorem ac_sync_Out (a : Agt) (now : Int) (ha : smallL a.items) : AC Tryz.prog 25 [.pv (.agg (cAgt a)), .pv (vint now)] [] (.pv (.tup [.agg (cAgt (outA a now)), .agg (cMsg (outM a now)), vbool (outB a now)])) [] := by
  have hb : (outL a).length ≠ 0 → AC Tryz.prog 60 [.pv (vint 1), .pv (vint a.dev), .pv (vint a.epoch), .pv (roL 7 cItem (outL a))] [] (.pv (.agg (cMsg (batchM 1 a.dev a.epoch (outL a))))) [] := fun h => ac_sync_batch 1 a.dev a.epoch (outL a) (outL_small ha) (by intro e; rw [e] at h; exact h rfl)
  have hO : outB a now = (decide (outL a ≠ []) && dueB a.sent (tickI now)) := rfl
  have hN : outL a = [] ↔ (outL a).length = 0 := List.length_eq_zero_iff.symm
  have cp := ac_sync_pick_Out a a.items ha
  change AC _ _ _ _ _ [(900000, _), (1, rowL 7 cItem (outL a))] at cp
  refine AC.of_awp (T := T) T_ok hm Tryz.call25 Tryz.func25 rfl rfl rfl ?_
  conv => whnf
  repeat (any_goals (first
    | (refine ⟨fun (h : (_ : Bool) = true) => ?_, fun (h : (_ : Bool) = false) => ?_⟩ <;> (try simp only [decide_eq_true_eq, decide_eq_false_iff_not, Bool.not_eq_true', Bool.not_eq_false', Int.toNat_natCast, beq_iff_eq, decide_eq_decide, beq_eq_false_iff_ne, ne_eq, reduceCtorEq] at h) <;> (conv => whnf))
    | (refine .inl ⟨_, ac_sync_own a ha, ?_⟩; conv => whnf)
    | (refine .inl ⟨_, ac_sync_tick now, ?_⟩; conv => whnf)
    | (refine .inr (.inr (.inr (.inr ⟨[(900000, 2)], [(1, 700001)], _, _, _, cp, rfl, ?_⟩))); conv => whnf)
    | (refine .inl ⟨_, ac_sync_due a.sent (tickI now) (tick_range now), ?_⟩; conv => whnf)
    | (refine .inl ⟨_, (hb (by omega)), ?_⟩; conv => whnf)
    | (refine And.intro (by (try simp only [Int.toNat_natCast]); omega) ?_; conv => whnf)
    | (refine And.intro (show (_ : Bool) = true from by kernel_rfl) ?_; conv => whnf)
    | (refine .inl ⟨wrap64 (by omega), ?_⟩; conv => whnf)))
  · have e0 : outL a = [] := hN.2 (by omega)
    have hB : outB a now = false := by rw [hO, e0]; simp
    rw [(out_no hB).1, (out_no hB).2, hB]
    refine ⟨?_, ?_, ?_⟩ <;> (conv => whnf)
    · exact .rfl
    · exact noMsg_cells
    · exact PSub.lit_sb rfl
  · have hB : outB a now = false := by rw [hO, h, Bool.and_false]
    rw [(out_no hB).1, (out_no hB).2, hB]
    refine ⟨?_, ?_, ?_⟩ <;> (conv => whnf)
    · exact .rfl
    · exact noMsg_cells
    · exact PSub.lit_sb rfl
  · have hB : outB a now = true := by rw [hO, h, decide_eq_true (show outL a ≠ [] from fun e => by have := hN.1 e; omega)]; rfl
    rw [(out_yes hB).1, (out_yes hB).2, hB]
    refine ⟨?_, ?_, ?_⟩ <;> (conv => whnf)
    · exact .rfl
    · exact .rfl
    · exact PSub.lit_sb rfl
end Go.Abs

namespace Go.Abs
open Go.Proofs
set_option maxRecDepth 10000
theorem max_if (c v g : Int) : (if c < if g < v then g else v then if g < v then g else v else c) = max c (min v g) := by
  simp only [Int.max_def, Int.min_def]
  (repeat' split) <;> omega
theorem above_snoc {l : List Item} {n : Int} {k : Nat} (h : k < l.length) : aboveL (l.take (k + 1)) n = aboveL (l.take k) n ++ if n < (l.getD k default).version then [l.getD k default] else [] := by
  unfold aboveL
  rw [fil_snoc _ h]
  congr 1
  simp only [decide_eq_true_eq]
theorem above_ne {l : List Item} {n : Int} {k : Nat} (h : k < l.length) : (aboveL (l.take (k + 1)) n ≠ []) ↔ (aboveL (l.take k) n ≠ [] ∨ n < (l.getD k default).version) := by
  rw [above_snoc h]
  split
  · rename_i h1; simp [h1, -List.getD_eq_getElem?_getD]
  · rename_i h1; simp [h1, -List.getD_eq_getElem?_getD]
theorem ac_sync_confirm (a : Agt) (m : Msg) (ha : smallL a.items) : AC Tryz.prog 44 [.pv (.agg (cAgt a)), .pv (.agg (cMsg m))] [] (.pv (.agg (cAgt (confA a m)))) [] := by
  have hl : a.items.length ≤ 1048576 := ha
  refine AC.of_awp (T := T) T_ok hm Tryz.call44 Tryz.func44 rfl rfl rfl ?_
  conv => whnf
  refine loop_k (ι := Nat) [2, 3, 4, 10, 11] [2, 3, 4] (fun k => k ≤ a.items.length ∧ True) (fun k => a.items.length - k) 0 (fun k => [(5, .pv (vint (greatI (a.items.take k)))), (6, .pv (.sb (decide (aboveL (a.items.take k) a.acked ≠ [])))), (12, .pv (vint k))]) (fun k => []) [] ⟨Nat.zero_le _, trivial⟩ ?_ (fun k hk => ?_)
  · (repeat' (first | exact PSub.rfl | exact rfl | exact PSubs.rfl | exact trivial | exact PSub.lit_sb rfl | refine And.intro ?_ ?_)); all_goals (exact PSub.lit_sb rfl)
  obtain ⟨hkn, hinv⟩ := hk
  conv => whnf
  conv => whnf
  refine ⟨fun h => ?_, fun h => ?_⟩ <;> (try simp only [decide_eq_true_eq, decide_eq_false_iff_not, Bool.not_eq_true', Bool.not_eq_false', Int.toNat_natCast, beq_iff_eq, decide_eq_decide, beq_eq_false_iff_ne, ne_eq, reduceCtorEq] at h) <;> (conv => whnf)
  · have hab := above_ne (l := a.items) (n := a.acked) (k := k) (by omega)
    have hg0 : k = 0 → greatI (a.items.take (k + 1)) = (a.items.getD k default).version := fun e => by subst e; exact great_one (by omega)
    have hg1 : 0 < k → greatI (a.items.take (k + 1)) = max (greatI (a.items.take k)) (a.items.getD k default).version := fun e => great_snoc e (by omega)
    repeat (any_goals (first
      | (refine ⟨fun (h : (_ : Bool) = true) => ?_, fun (h : (_ : Bool) = false) => ?_⟩ <;> (try simp only [decide_eq_true_eq, decide_eq_false_iff_not, Bool.not_eq_true', Bool.not_eq_false', Int.toNat_natCast, beq_iff_eq, decide_eq_decide, beq_eq_false_iff_ne, ne_eq, reduceCtorEq] at h) <;> (conv => whnf))
      | (refine And.intro (by (try simp only [Int.toNat_natCast]); omega) ?_; conv => whnf)
      | (refine And.intro (show (_ : Bool) = true from by kernel_rfl) ?_; conv => whnf)
      | (refine .inl ⟨wrap64 (by omega), ?_⟩; conv => whnf)))
    all_goals
      refine ⟨k + 1, [], ⟨by omega, trivial⟩, by omega, ?_⟩
      (repeat' (first | exact PSub.rfl | exact rfl | exact PSubs.rfl | exact trivial | exact PSub.lit_sb rfl | refine And.intro ?_ ?_))
      all_goals first
        | (refine PSub.int ?_; (try simp only [Int.toNat_natCast]); rw [hg0 (by omega)]; done)
        | (refine PSub.int ?_; (try simp only [Int.toNat_natCast]); rw [hg1 (by omega)]; omega)
        | (refine PSub.lit_sb ?_; symm; rw [decide_eq_true_eq]; exact hab.2 (.inl h))
        | exact PSub.sb (decide_eq_decide.2 ⟨fun h3 => hab.2 (.inr h3), fun h3 => (hab.1 h3).resolve_left h⟩)
        | trace_state
  · have e : k = a.items.length := by omega
    subst e
    rw [List.take_length] at *
    unfold confA
    repeat (any_goals (first
      | (refine ⟨fun (h : (_ : Bool) = true) => ?_, fun (h : (_ : Bool) = false) => ?_⟩ <;> (try simp only [decide_eq_true_eq, decide_eq_false_iff_not, Bool.not_eq_true', Bool.not_eq_false', Int.toNat_natCast, beq_iff_eq, decide_eq_decide, beq_eq_false_iff_ne, ne_eq, reduceCtorEq] at h) <;> (conv => whnf))
      | (refine And.intro (by (try simp only [Int.toNat_natCast]); omega) ?_; conv => whnf)
      | (refine And.intro (show (_ : Bool) = true from by kernel_rfl) ?_; conv => whnf)
      | (refine .inl ⟨wrap64 (by omega), ?_⟩; conv => whnf)))
    · rename_i h1
      rw [if_pos (show m.epoch = a.epoch ∧ m.version ≠ 0 from ⟨h1, h⟩)]
      refine PSub.agg ⟨.rfl, .rfl, PSub.int (max_if _ _ _), .rfl, .rfl, ?_, trivial⟩
      exact PSub.rfl
    iterate 2
      · rename_i h1
        rw [if_neg (by omega), if_pos ⟨h1, Classical.not_not.1 h⟩]
        exact .rfl
      · rw [if_neg (by omega), if_neg (fun x => h x.2)]
        exact .rfl
      · rw [if_neg (by omega), if_neg (fun x => h x.1)]
        exact .rfl
end Go.Abs

namespace Go.Abs
open Go.Proofs
set_option maxRecDepth 10000
theorem ac_sync_Equal (s : Shd) (a : Agt) (hs : smallSh s) (ha : smallL a.items) : AC Tryz.prog 21 [.pv (.agg (cShd s)), .pv (.agg (cAgt a))] [] (.pv (vbool (eqlB s a))) [] := by
  have h1 : s.reported.length ≤ 1048576 := hs.1
  have h2 : a.items.length ≤ 1048576 := ha
  refine AC.of_awp (T := T) T_ok hm Tryz.call21 Tryz.func21 rfl rfl rfl ?_
  conv => whnf
  repeat (any_goals (first
    | (refine ⟨fun (h : (_ : Bool) = true) => ?_, fun (h : (_ : Bool) = false) => ?_⟩ <;> (try simp only [decide_eq_true_eq, decide_eq_false_iff_not, Bool.not_eq_true', Bool.not_eq_false', Int.toNat_natCast, beq_iff_eq, decide_eq_decide, beq_eq_false_iff_ne, ne_eq, reduceCtorEq] at h) <;> (conv => whnf))
    | (refine .inl ⟨_, ac_shadow_Synced s hs, ?_⟩; conv => whnf)
    | (refine And.intro (by (try simp only [Int.toNat_natCast]); omega) ?_; conv => whnf)
    | (refine And.intro (show (_ : Bool) = true from by kernel_rfl) ?_; conv => whnf)
    | (refine .inl ⟨wrap64 (by omega), ?_⟩; conv => whnf)))
  iterate 4
    · refine PSub.lit_sb ?_
      symm
      rw [← Bool.not_eq_true]
      intro h2
      unfold eqlB at h2
      simp only [Bool.and_eq_true, decide_eq_true_eq] at h2
      first
        | exact h h2.1.1.1.1
        | exact h h2.1.1.1.2
        | exact h h2.1.2
        | (have := h2.1.1.2; omega)
  refine loop_k (ι := Nat) [3, 34, 35] [3] (fun k => k ≤ s.reported.length ∧ (∀ j, j < k → (s.reported.getD j default).key = (a.items.getD j default).key ∧ (s.reported.getD j default).value = (a.items.getD j default).value)) (fun k => s.reported.length - k) 0 (fun k => [(36, .pv (vint k))]) (fun _ => []) [] ⟨Nat.zero_le _, fun j h => absurd h (by omega)⟩ ?_ (fun k hk => ?_)
  · (repeat' (first | exact PSub.rfl | exact rfl | exact PSubs.rfl | exact trivial | exact PSub.lit_sb rfl | refine And.intro ?_ ?_))
  obtain ⟨hkn, hinv⟩ := hk
  conv => whnf
  repeat (any_goals (first
    | (refine ⟨fun (h : (_ : Bool) = true) => ?_, fun (h : (_ : Bool) = false) => ?_⟩ <;> (try simp only [decide_eq_true_eq, decide_eq_false_iff_not, Bool.not_eq_true', Bool.not_eq_false', Int.toNat_natCast, beq_iff_eq, decide_eq_decide, beq_eq_false_iff_ne, ne_eq, reduceCtorEq] at h) <;> (conv => whnf))
    | (refine And.intro (by (try simp only [Int.toNat_natCast]); omega) ?_; conv => whnf)
    | (refine And.intro (show (_ : Bool) = true from by kernel_rfl) ?_; conv => whnf)
    | (refine .inl ⟨wrap64 (by omega), ?_⟩; conv => whnf)))
  · have e := of_decide_eq_false ((key_eq _ _).symm.trans h)
    refine PSub.lit_sb ?_
    symm
    rw [← Bool.not_eq_true]
    intro h2
    unfold eqlB at h2
    simp only [Bool.and_eq_true, decide_eq_true_eq] at h2
    exact e (h2.2 k (by omega)).1
  · have e := of_decide_eq_false ((val_eq _ _).symm.trans h)
    refine PSub.lit_sb ?_
    symm
    rw [← Bool.not_eq_true]
    intro h2
    unfold eqlB at h2
    simp only [Bool.and_eq_true, decide_eq_true_eq] at h2
    exact e (h2.2 k (by omega)).2
  · have e := of_decide_eq_true ((val_eq _ _).symm.trans h)
    rename_i h1
    have e1 := of_decide_eq_true ((key_eq _ _).symm.trans h1)
    refine ⟨k + 1, [], ⟨by omega, ?_⟩, by first | omega | (dsimp only; omega), ?_⟩
    rotate_left
    · (repeat' (first | exact PSub.rfl | exact rfl | exact PSubs.rfl | exact trivial | exact PSub.lit_sb rfl | refine And.intro ?_ ?_))
    intro j hj
    by_cases e2 : j = k
    · subst e2; exact ⟨e1, e⟩
    · exact hinv j (by omega)
  · refine PSub.lit_sb ?_
    symm
    unfold eqlB
    simp only [Bool.and_eq_true, decide_eq_true_eq]
    refine ⟨⟨⟨⟨by assumption, by assumption⟩, by omega⟩, by assumption⟩, fun i hi => hinv i (by omega)⟩
def wideC (c : Clu) : Bool := decide (15 < c.attrs.length) || (decide (15 < c.commands.length) || decide (15 < c.events.length))
def wideD (d : Dev) : Bool := decide (15 < d.clusters.length)
def largeB (H : Hom) : Bool := decide (12 < H.clusters.length ∨ 24 < H.devices.length) || (anyN H.clusters.length (fun i => wideC (H.clusters.getD i default)) || anyN H.devices.length (fun i => wideD (H.devices.getD i default)))
theorem ac_law26_large (H : Hom) (hH : smallH H) : AC Tryz.prog 33 [.pv (.agg (cHom H))] [] (.pv (vbool (largeB H))) [] := by
  have h1 : H.clusters.length ≤ 1048576 := hH.1.1
  have h2 : H.devices.length ≤ 1048576 := hH.2.1
  refine AC.of_awp (T := T) T_ok hm Tryz.call33 Tryz.func33 rfl rfl rfl ?_
  conv => whnf
  repeat (any_goals (first
    | (refine ⟨fun (h : (_ : Bool) = true) => ?_, fun (h : (_ : Bool) = false) => ?_⟩ <;> (try simp only [decide_eq_true_eq, decide_eq_false_iff_not, Bool.not_eq_true', Bool.not_eq_false', Int.toNat_natCast, beq_iff_eq, decide_eq_decide, beq_eq_false_iff_ne, ne_eq, reduceCtorEq] at h) <;> (conv => whnf))
    | (refine And.intro (by (try simp only [Int.toNat_natCast]); omega) ?_; conv => whnf)
    | (refine And.intro (show (_ : Bool) = true from by kernel_rfl) ?_; conv => whnf)
    | (refine .inl ⟨wrap64 (by omega), ?_⟩; conv => whnf)))
  · exact PSub.lit_sb (by unfold largeB; rw [decide_eq_true (.inl (by omega))]; rfl)
  · exact PSub.lit_sb (by unfold largeB; rw [decide_eq_true (.inr (by omega))]; rfl)
  have h0 : decide (12 < H.clusters.length ∨ 24 < H.devices.length) = false := decide_eq_false (by omega)
  have found : ∀ k, k < H.clusters.length → wideC (H.clusters.getD k default) = true → largeB H = true := fun k hk hw => by
    unfold largeB
    rw [anyN_true hk hw]; simp
  have found2 : ∀ k, k < H.devices.length → wideD (H.devices.getD k default) = true → largeB H = true := fun k hk hw => by
    unfold largeB
    rw [anyN_true hk hw]; simp
  refine loop_k (ι := Nat) [1] [1] (fun k => k ≤ H.clusters.length ∧ (∀ j, j < k → wideC (H.clusters.getD j default) = false)) (fun k => H.clusters.length - k) 0 (fun k => [(3, .pv (vint k))]) (fun _ => []) [] ⟨Nat.zero_le _, fun j h => absurd h (by omega)⟩ ?_ (fun k hk => ?_)
  · (repeat' (first | exact PSub.rfl | exact rfl | exact PSubs.rfl | exact trivial | exact PSub.lit_sb rfl | refine And.intro ?_ ?_))
  obtain ⟨hkn, hinv⟩ := hk
  conv => whnf
  repeat (any_goals (first
    | (refine ⟨fun (h : (_ : Bool) = true) => ?_, fun (h : (_ : Bool) = false) => ?_⟩ <;> (try simp only [decide_eq_true_eq, decide_eq_false_iff_not, Bool.not_eq_true', Bool.not_eq_false', Int.toNat_natCast, beq_iff_eq, decide_eq_decide, beq_eq_false_iff_ne, ne_eq, reduceCtorEq] at h) <;> (conv => whnf))
    | (refine And.intro (by (try simp only [Int.toNat_natCast]); omega) ?_; conv => whnf)
    | (refine And.intro (show (_ : Bool) = true from by kernel_rfl) ?_; conv => whnf)
    | (refine .inl ⟨wrap64 (by omega), ?_⟩; conv => whnf)))
  · exact PSub.lit_sb (found k (by omega) (by unfold wideC; rw [decide_eq_true (show 15 < (H.clusters.getD k default).attrs.length by omega)]; rfl)).symm
  · exact PSub.lit_sb (found k (by omega) (by unfold wideC; rw [decide_eq_true (show 15 < (H.clusters.getD k default).commands.length by omega)]; simp)).symm
  · exact PSub.lit_sb (found k (by omega) (by unfold wideC; rw [decide_eq_true (show 15 < (H.clusters.getD k default).events.length by omega)]; simp)).symm
  · have hw : wideC (H.clusters.getD k default) = false := by
      unfold wideC
      rw [decide_eq_false (show ¬ 15 < (H.clusters.getD k default).attrs.length by omega), decide_eq_false (show ¬ 15 < (H.clusters.getD k default).commands.length by omega), decide_eq_false (show ¬ 15 < (H.clusters.getD k default).events.length by omega)]; rfl
    refine ⟨k + 1, [], ⟨by omega, ?_⟩, by first | omega | (dsimp only; omega), ?_⟩
    rotate_left
    · (repeat' (first | exact PSub.rfl | exact rfl | exact PSubs.rfl | exact trivial | exact PSub.lit_sb rfl | refine And.intro ?_ ?_))
    intro j hj
    by_cases e : j = k
    · rw [e]; exact hw
    · exact hinv j (by omega)
  · have hc0 : (anyN H.clusters.length fun i => wideC (H.clusters.getD i default)) = false := anyN_false fun j hj => hinv j (by omega)
    clear hinv hkn h
    refine loop_k (ι := Nat) [1] [1] (fun q => q ≤ H.devices.length ∧ (∀ j, j < q → wideD (H.devices.getD j default) = false)) (fun q => H.devices.length - q) 0 (fun q => [(5, .pv (vint q))]) (fun _ => []) [] ⟨Nat.zero_le _, fun j h => absurd h (by omega)⟩ ?_ (fun q hk => ?_)
    · (repeat' (first | exact PSub.rfl | exact rfl | exact PSubs.rfl | exact trivial | exact PSub.lit_sb rfl | refine And.intro ?_ ?_))
    obtain ⟨hkn, hinv⟩ := hk
    conv => whnf
    repeat (any_goals (first
      | (refine ⟨fun (h : (_ : Bool) = true) => ?_, fun (h : (_ : Bool) = false) => ?_⟩ <;> (try simp only [decide_eq_true_eq, decide_eq_false_iff_not, Bool.not_eq_true', Bool.not_eq_false', Int.toNat_natCast, beq_iff_eq, decide_eq_decide, beq_eq_false_iff_ne, ne_eq, reduceCtorEq] at h) <;> (conv => whnf))
      | (refine And.intro (by (try simp only [Int.toNat_natCast]); omega) ?_; conv => whnf)
      | (refine And.intro (show (_ : Bool) = true from by kernel_rfl) ?_; conv => whnf)
      | (refine .inl ⟨wrap64 (by omega), ?_⟩; conv => whnf)))
    · exact PSub.lit_sb (found2 q (by omega) (decide_eq_true (show 15 < (H.devices.getD q default).clusters.length by omega))).symm
    · have hw : wideD (H.devices.getD q default) = false := decide_eq_false (show ¬ 15 < (H.devices.getD q default).clusters.length by omega)
      refine ⟨q + 1, [], ⟨by omega, ?_⟩, by first | omega | (dsimp only; omega), ?_⟩
      rotate_left
      · (repeat' (first | exact PSub.rfl | exact rfl | exact PSubs.rfl | exact trivial | exact PSub.lit_sb rfl | refine And.intro ?_ ?_))
      intro j hj
      by_cases e : j = q
      · rw [e]; exact hw
      · exact hinv j (by omega)
    · refine PSub.lit_sb ?_
      unfold largeB
      rw [h0, hc0, anyN_false fun j hj => hinv j (by omega)]; rfl
end Go.Abs

namespace Go.Abs
open Go.Proofs
set_option maxRecDepth 10000
def msg4 (m : Msg) : Msg := ⟨4, m.dev, m.epoch, m.version, [], ⟨#[]⟩, ⟨#[]⟩, ⟨#[]⟩⟩
def msg2 (m : Msg) : Msg := ⟨2, m.dev, m.epoch, m.version, [], ⟨#[]⟩, ⟨#[]⟩, ⟨#[]⟩⟩
theorem msgK_cells (k a b c : Int) : PSub (.agg [vint k, vint a, vint b, vint c, .val (.slice none 0 0), vstr ⟨#[]⟩, vstr ⟨#[]⟩, vstr ⟨#[]⟩]) (.agg (cMsg ⟨k, a, b, c, [], ⟨#[]⟩, ⟨#[]⟩, ⟨#[]⟩⟩)) := PSub.agg ⟨.rfl, .rfl, .rfl, .rfl, PSub.nil_ro _ _, .rfl, .rfl, .rfl, trivial⟩
end Go.Abs

namespace Go.Abs
open Go.Proofs
set_option maxRecDepth 10000
theorem giv_rep {H : Hom} {s : Shd} {m : Msg} (h : m.dev = s.dev ∧ m.kind = 1 ∧ s.epoch ≤ m.epoch) : givS H s m = repS H s m ∧ givK H s m = repK H s m ∧ givM s m = msg2 m ∧ givB s m = true := by
  have hb : givB s m = true := by unfold givB; simp only [Bool.and_eq_true, decide_eq_true_eq]; exact ⟨⟨h.1, h.2.1⟩, h.2.2⟩
  rw [givS, if_pos hb, givK, if_pos hb, givM, if_pos hb]; exact ⟨rfl, rfl, rfl, hb⟩
theorem giv_bno {s : Shd} {m : Msg} (h : ¬ (m.dev = s.dev ∧ m.kind = 1 ∧ s.epoch ≤ m.epoch)) : givB s m = false := by
  unfold givB
  rw [Bool.eq_false_iff]
  intro h2
  simp only [Bool.and_eq_true, decide_eq_true_eq] at h2
  exact h ⟨h2.1.1, h2.1.2, h2.2⟩
theorem giv_done {H : Hom} {s : Shd} {m : Msg} (h : m.dev = s.dev ∧ m.kind = 4 ∧ m.epoch = s.epoch) : givS H s m = { donS s m.epoch m.version with sent := -1 } ∧ givK H s m = [] ∧ givM s m = noMsg ∧ givB s m = false := by
  have hb := giv_bno (s := s) (m := m) (by omega)
  rw [givS, if_neg (by rw [hb]; decide), if_pos h, givK, if_neg (by rw [hb]; decide), givM, if_neg (by rw [hb]; decide)]; exact ⟨rfl, rfl, rfl, hb⟩
theorem giv_no {H : Hom} {s : Shd} {m : Msg} (h1 : ¬ (m.dev = s.dev ∧ m.kind = 1 ∧ s.epoch ≤ m.epoch)) (h2 : ¬ (m.dev = s.dev ∧ m.kind = 4 ∧ m.epoch = s.epoch)) : givS H s m = s ∧ givK H s m = [] ∧ givM s m = noMsg ∧ givB s m = false := by
  have hb := giv_bno h1
  rw [givS, if_neg (by rw [hb]; decide), if_neg h2, givK, if_neg (by rw [hb]; decide), givM, if_neg (by rw [hb]; decide)]; exact ⟨rfl, rfl, rfl, hb⟩
theorem ac_sync_Give (H : Hom) (s : Shd) (m : Msg) (hH : smallH H) (hs : smallSh s) (hmi : smallL m.items) : AC Tryz.prog 17 [.pv (.agg (cHom H)), .pv (.agg (cShd s)), .pv (.agg (cMsg m))] [] (.pv (.tup [.agg (cShd (givS H s m)), roL 3 cKey (givK H s m), .agg (cMsg (givM s m)), vbool (givB s m)])) [] := by
  refine AC.of_awp (T := T) T_ok hm Tryz.call17 Tryz.func17 rfl rfl rfl ?_
  conv => whnf
  repeat (any_goals (first
    | (refine ⟨fun (h : (_ : Bool) = true) => ?_, fun (h : (_ : Bool) = false) => ?_⟩ <;> (try simp only [decide_eq_true_eq, decide_eq_false_iff_not, Bool.not_eq_true', Bool.not_eq_false', Int.toNat_natCast, beq_iff_eq, decide_eq_decide, beq_eq_false_iff_ne, ne_eq, reduceCtorEq] at h) <;> (conv => whnf))
    | (refine .inl ⟨_, ac_sync_held s hs, ?_⟩; conv => whnf)
    | (refine .inl ⟨_, ac_shadow_Report H s m hH hs hmi, ?_⟩; conv => whnf)
    | (refine .inl ⟨_, ac_shadow_Done s m.epoch m.version hs, ?_⟩; conv => whnf)
    | (refine And.intro (by (try simp only [Int.toNat_natCast]); omega) ?_; conv => whnf)
    | (refine And.intro (show (_ : Bool) = true from by kernel_rfl) ?_; conv => whnf)
    | (refine .inl ⟨wrap64 (by omega), ?_⟩; conv => whnf)))
  all_goals first
    | (exfalso; omega)
    | (obtain ⟨e1, e2, e3, e4⟩ := giv_rep (H := H) (s := s) (m := m) (by omega)
       rw [e1, e2, e3, e4]
       refine ⟨?_, ?_, ?_, ?_⟩ <;> (conv => whnf)
       · exact .rfl
       · exact .rfl
       · exact msgK_cells _ _ _ _
       · exact PSub.lit_sb rfl)
    | (obtain ⟨e1, e2, e3, e4⟩ := giv_done (H := H) (s := s) (m := m) (by omega)
       rw [e1, e2, e3, e4]
       refine ⟨?_, ?_, ?_, ?_⟩ <;> (conv => whnf)
       · exact .rfl
       · exact PSub.nil_ro _ _
       · exact noMsg_cells
       · exact PSub.lit_sb rfl)
    | (obtain ⟨e1, e2, e3, e4⟩ := giv_no (H := H) (s := s) (m := m) (by omega) (by omega)
       rw [e1, e2, e3, e4]
       refine ⟨?_, ?_, ?_, ?_⟩ <;> (conv => whnf)
       · exact .rfl
       · exact PSub.nil_ro _ _
       · exact noMsg_cells
       · exact PSub.lit_sb rfl)
    | trace_state
end Go.Abs

namespace Go.Abs
open Go.Proofs
set_option maxRecDepth 10000
theorem tak_no {H : Hom} {a : Agt} {m : Msg} (h1 : ¬ (m.dev = a.dev ∧ m.kind = 2)) (h2 : takB a m = false) : takA H a m = a ∧ takM a m = noMsg := by
  rw [takA, if_neg h1, if_neg (by rw [h2]; decide), takM, if_neg (by rw [h2]; decide)]; exact ⟨rfl, rfl⟩
theorem tak_conf {H : Hom} {a : Agt} {m : Msg} (h1 : m.dev = a.dev ∧ m.kind = 2) : takA H a m = confA a m ∧ takM a m = noMsg ∧ takB a m = false := by
  have h2 : takB a m = false := by unfold takB; rw [h1.2]; simp
  rw [takA, if_pos h1, takM, if_neg (by rw [h2]; decide)]; exact ⟨rfl, rfl, h2⟩
theorem tak_yes {H : Hom} {a : Agt} {m : Msg} (h : m.dev = a.dev ∧ m.kind = 3 ∧ m.epoch = a.epoch) : takA H a m = { a with items := takL H a m, applied := max a.applied m.version, sent := if takL H a m = a.items then a.sent else -1 } ∧ takM a m = msg4 m ∧ takB a m = true := by
  have h2 : takB a m = true := by unfold takB; simp only [Bool.and_eq_true, decide_eq_true_eq]; exact ⟨⟨h.1, h.2.1⟩, h.2.2⟩
  rw [takA, if_neg (by omega), if_pos h2, takM, if_pos h2]; exact ⟨rfl, rfl, h2⟩
theorem takB_no {a : Agt} {m : Msg} (h : ¬ (m.dev = a.dev ∧ m.kind = 3 ∧ m.epoch = a.epoch)) : takB a m = false := by
  unfold takB
  rw [Bool.eq_false_iff]
  intro h2
  simp only [Bool.and_eq_true, decide_eq_true_eq] at h2
  exact h ⟨h2.1.1, h2.1.2, h2.2⟩
theorem wrL_small {H : Hom} {l ws : List Item} (hl : smallL l) : smallL (wrL H l ws) := by
  show (wrL H l ws).length ≤ _
  rw [wrL_length]; exact hl
theorem max_if1 (c v : Int) : (if c < v then v else c) = max c v := by
  simp only [Int.max_def]
  (repeat' split) <;> omega
end Go.Abs

namespace Go.Abs
open Go.Proofs
set_option maxRecDepth 10000
set_option maxHeartbeats 2000000 in
theorem ac_sync_Take (H : Hom) (a : Agt) (m : Msg) (hH : smallH H) (ha : smallL a.items) (hmi : smallL m.items) : AC Tryz.prog 12 [.pv (.agg (cHom H)), .pv (.agg (cAgt a)), .pv (.agg (cMsg m))] [] (.pv (.tup [.agg (cAgt (takA H a m)), .agg (cMsg (takM a m)), vbool (takB a m)])) [] := by
  have hl : a.items.length ≤ 1048576 := ha
  have hml : m.items.length ≤ 1048576 := hmi
  have cp := ac_sync_pick_Take a m.items hmi
  obtain ⟨L, hL⟩ : ∃ L, L = sortV (aboveL m.items a.applied) := ⟨_, rfl⟩
  have hLl : L.length ≤ 1048576 := by
    rw [hL, sortV_length]
    have := above_length m.items a.applied; omega
  have htl : takL H a m = wrL H a.items L := by rw [hL]; rfl
  rw [← hL] at cp
  refine AC.of_awp (T := T) T_ok hm Tryz.call12 Tryz.func12 rfl rfl rfl ?_
  conv => whnf
  repeat (any_goals (first
    | (refine ⟨fun (h : (_ : Bool) = true) => ?_, fun (h : (_ : Bool) = false) => ?_⟩ <;> (try simp only [decide_eq_true_eq, decide_eq_false_iff_not, Bool.not_eq_true', Bool.not_eq_false', Int.toNat_natCast, beq_iff_eq, decide_eq_decide, beq_eq_false_iff_ne, ne_eq, reduceCtorEq] at h) <;> (conv => whnf))
    | (refine .inl ⟨_, ac_sync_own a ha, ?_⟩; conv => whnf)
    | (refine .inl ⟨_, ac_sync_confirm a m ha, ?_⟩; conv => whnf)
    | (refine .inr (.inr (.inr (.inr ⟨[(900000, 4)], [(1, 700001)], _, _, _, cp, rfl, ?_⟩))); conv => whnf)
    | (refine And.intro (by (try simp only [Int.toNat_natCast]); omega) ?_; conv => whnf)
    | (refine And.intro (show (_ : Bool) = true from by kernel_rfl) ?_; conv => whnf)
    | (refine .inl ⟨wrap64 (by omega), ?_⟩; conv => whnf)))
  · obtain ⟨e1, e2⟩ := tak_no (H := H) (a := a) (m := m) (by omega) (takB_no (by omega))
    rw [e1, e2, takB_no (by omega)]
    refine ⟨?_, ?_, ?_⟩ <;> (conv => whnf)
    · exact .rfl
    · exact noMsg_cells
    · exact PSub.lit_sb rfl
  · obtain ⟨e1, e2, e3⟩ := tak_conf (H := H) (a := a) (m := m) (by omega)
    rw [e1, e2, e3]
    refine ⟨?_, ?_, ?_⟩ <;> (conv => whnf)
    · exact .rfl
    · exact noMsg_cells
    · exact PSub.lit_sb rfl
  · obtain ⟨e1, e2⟩ := tak_no (H := H) (a := a) (m := m) (by omega) (takB_no (by omega))
    rw [e1, e2, takB_no (by omega)]
    refine ⟨?_, ?_, ?_⟩ <;> (conv => whnf)
    · exact .rfl
    · exact noMsg_cells
    · exact PSub.lit_sb rfl
  · obtain ⟨e1, e2⟩ := tak_no (H := H) (a := a) (m := m) (by omega) (takB_no (by omega))
    rw [e1, e2, takB_no (by omega)]
    refine ⟨?_, ?_, ?_⟩ <;> (conv => whnf)
    · exact .rfl
    · exact noMsg_cells
    · exact PSub.lit_sb rfl
  obtain ⟨y1, y2, y3⟩ := tak_yes (H := H) (a := a) (m := m) (by omega)
  rw [y1, y2, y3, htl]
  refine loop_k (ι := Nat) [3, 4, 5, 6, 7, 9, 47, 48] [3, 5, 6, 7, 700001] (fun k => k ≤ L.length) (fun k => L.length - k) 0 (fun k => [(49, .pv (vint k))]) (fun k => [(4, .pbox (cAgt { a with items := wrL H a.items (L.take k) }))]) [] (Nat.zero_le _) ?_ (fun k hk => ?_)
  · (repeat' (first | exact PSub.rfl | exact rfl | exact PSubs.rfl | exact trivial | exact PSub.lit_sb rfl | refine And.intro ?_ ?_))
    all_goals (intro q hq; exact PSubs.rfl)
  have hRs : smallL (wrL H a.items (L.take k)) := wrL_small ha
  conv => whnf
  refine ⟨fun h => ?_, fun h => ?_⟩ <;> (try simp only [decide_eq_true_eq, decide_eq_false_iff_not, Bool.not_eq_true', Bool.not_eq_false', Int.toNat_natCast, beq_iff_eq, decide_eq_decide, beq_eq_false_iff_ne, ne_eq, reduceCtorEq] at h) <;> (conv => whnf)
  · have hs := wrL_snoc (H := H) (l := a.items) (ws := L) (k := k) (by omega)
    generalize wrL H a.items (L.take k) = R at *
    unfold wrI at hs
    repeat (any_goals (first
      | (refine ⟨fun (h : (_ : Bool) = true) => ?_, fun (h : (_ : Bool) = false) => ?_⟩ <;> (try simp only [decide_eq_true_eq, decide_eq_false_iff_not, Bool.not_eq_true', Bool.not_eq_false', Int.toNat_natCast, beq_iff_eq, decide_eq_decide, beq_eq_false_iff_ne, ne_eq, reduceCtorEq] at h) <;> (conv => whnf))
      | (refine .inl ⟨_, ac_device_Write H R (L.getD k default).key (L.getD k default).value hH hRs, ?_⟩; conv => whnf)
      | (refine And.intro (by (try simp only [Int.toNat_natCast]); omega) ?_; conv => whnf)
      | (refine And.intro (show (_ : Bool) = true from by kernel_rfl) ?_; conv => whnf)
      | (refine .inl ⟨wrap64 (by omega), ?_⟩; conv => whnf)))
    · rw [if_pos h] at hs
      refine ⟨k + 1, [], by omega, by omega, ?_⟩
      rw [hs]
      (repeat' (first | exact PSub.rfl | exact rfl | exact PSubs.rfl | exact trivial | exact PSub.lit_sb rfl | refine And.intro ?_ ?_))
      all_goals (intro q hq; exact PSubs.rfl)
    · rw [if_neg h] at hs
      refine ⟨k + 1, [], by omega, by omega, ?_⟩
      rw [hs]
      (repeat' (first | exact PSub.rfl | exact rfl | exact PSubs.rfl | exact trivial | exact PSub.lit_sb rfl | refine And.intro ?_ ?_))
      all_goals (intro q hq; exact PSubs.rfl)
  · have e : k = L.length := by omega
    subst e
    rw [List.take_length] at *
    generalize wrL H a.items L = W at *
    repeat (any_goals (first
      | (refine ⟨fun (h : (_ : Bool) = true) => ?_, fun (h : (_ : Bool) = false) => ?_⟩ <;> (try simp only [decide_eq_true_eq, decide_eq_false_iff_not, Bool.not_eq_true', Bool.not_eq_false', Int.toNat_natCast, beq_iff_eq, decide_eq_decide, beq_eq_false_iff_ne, ne_eq, reduceCtorEq] at h) <;> (conv => whnf))
      | (refine .inl ⟨_, ac_slices_Equal_Item a.items W hl, ?_⟩; conv => whnf)
      | (refine And.intro (by (try simp only [Int.toNat_natCast]); omega) ?_; conv => whnf)
      | (refine And.intro (show (_ : Bool) = true from by kernel_rfl) ?_; conv => whnf)
      | (refine .inl ⟨wrap64 (by omega), ?_⟩; conv => whnf)))
    · rw [if_neg (show ¬ W = a.items from fun x => h x.symm)]
      refine ⟨?_, ?_, ?_⟩ <;> (conv => whnf)
      · refine PSub.agg ⟨.rfl, .rfl, .rfl, PSub.int (max_if1 _ _), .rfl, ?_, trivial⟩
        exact PSub.rfl
      · exact msgK_cells _ _ _ _
      · exact PSub.lit_sb rfl
    · rw [if_pos (show W = a.items from h.symm)]
      refine ⟨?_, ?_, ?_⟩ <;> (conv => whnf)
      · refine PSub.agg ⟨.rfl, .rfl, .rfl, PSub.int (max_if1 _ _), .rfl, ?_, trivial⟩
        exact PSub.rfl
      · exact msgK_cells _ _ _ _
      · exact PSub.lit_sb rfl
end Go.Abs

namespace Go.Abs
open Go.RowKit
variable [Globals]
def opSI (P : Program) (T : Tab) (nt : Nat) (o : Oper) (s : AState) (K : AState → Prop) : Prop :=
  match s with
  | ⟨tm, ob⟩ => match o with
    | ⟨none, op, ty, pos, after, guard⟩ => aopcN P T ⟨none, op, ty, pos, after, guard⟩ 0 (evO tm) (getO ob) fun v u => iceB op v u fun v u => nextS nt none ⟨tm, ob⟩ v u K
    | ⟨some d, op, ty, pos, after, guard⟩ => aopcN P T ⟨some d, op, ty, pos, after, guard⟩ d (evO tm) (getO ob) fun v u => iceB op v u fun v u => nextS nt (some d) ⟨tm, ob⟩ v u K
def arunI (P : Program) (T : Tab) (nt : Nat) (ops : List Oper) : List Oper → AState → (AState → Prop) → Prop
  | [], s, K => K s
  | o :: r, s, K => guardK ops o.guard s fun b s => match b with
    | true => opSI P T nt o s fun s => arunI P T nt ops r s K
    | false => nextS nt o.dst s skipV [] fun s => arunI P T nt ops r s K
section
variable {P : Program} {T : Tab} {E : FEnv}
theorem opSI_sound (hE : E.ok) (hT : T.ok P) {o : Oper} {s : AState} {K : AState → Prop} {σ : Sig} {a : Act} {w : World} {Q : Exit → Act → World → Prop} (hR : Rel P E s σ a w) (h : opSI P T E.nt o s K) :
    o.wp P a w (fun a' w' => ∃ s' σ', K s' ∧ Rel P E s' σ' a' w') Q := by
  obtain ⟨tm, ob⟩ := s
  have h2 : aopcN P T o (idOf o.dst) (evO tm) (getO ob) fun v u => iceB o.op v u fun v u => nextS E.nt o.dst ⟨tm, ob⟩ v u K := by
    obtain ⟨d, op, ty, pos, after, guard⟩ := o
    cases d <;> exact h
  have hi := hR.inv hE
  have wrap : ∀ (v : AV) (u : Upd), nextS E.nt o.dst ⟨tm, ob⟩ v u K → K ⟨putT tm o.dst v, u ++ ob⟩ ∧ ∀ t, o.dst = some t → t < E.nt := by
    intro v u hK
    refine ⟨?_, fun t ht => ?_⟩
    · cases hd' : o.dst with
      | none =>
        rw [hd'] at hK
        unfold nextS at hK
        simp only at hK
        match u, hK with
        | [], hK => exact hK
        | [x], hK => exact hK
        | x :: y :: r, hK => exact hK
      | some t =>
        rw [hd'] at hK
        unfold nextS at hK
        have hK := (chk_true hK).2
        match u, hK with
        | [], hK => exact hK
        | [x], hK => exact hK
        | x :: y :: r, hK => exact hK
    · rw [ht] at hK
      unfold nextS at hK
      exact Nat.le_of_ble_eq_true (chk_true hK).1
  obtain ⟨v0, u0, hK0, hS0⟩ := aopcN_sound hT h2
  obtain ⟨v, u, hK, hS⟩ := iceB_sound hK0 hS0
  have hnear : ∀ k, near o (evO tm) (getO ob) k → getO ob k ≠ none := by
    rintro k (⟨x, hx, hk⟩ | ⟨x, hx, l, hl, obj, hob, hk⟩ | ⟨x, hx, m, hm, obj', hob', l, hl, obj, hob, hk⟩)
    · exact evO_refs hR x k hk
    · exact hR.wo l obj hob k hk
    · exact hR.wo l obj hob k hk
  obtain ⟨hK', hd⟩ := wrap v u hK
  refine (hS.runs E.St E.M0 σ w a.eval hi (fun x _ => evO_rel hE hR x) (fun k _ obj e => hR.ob k obj e) hnear (fun l _ h1 => hR.nob l h1)).wp (fun v' w' ⟨σ', hp⟩ => ?_)
  refine ⟨_, σ', hK', RelF.post (tmf' := getT (putT tm o.dst v)) (obf' := getO (u ++ ob)) hE hR hp hd (fun l obj e => (hS.lv l obj e).2) (fun l hl => (hS.rv l hl).imp (hnear l) id) (fun i obj e l hl => (hS.ro i obj e l hl).imp (hnear l) id) (fun t => ?_) (fun l => ?_)⟩
  · cases hd' : o.dst with
    | none => exact .inr ⟨by simp, by simp [putT]⟩
    | some d =>
      simp only [putT, getT_cons, Option.some.injEq]
      by_cases e : d = t
      · exact .inl ⟨e, by rw [if_pos e]⟩
      · exact .inr ⟨fun h => e (Option.some.inj h), by rw [if_neg e]⟩
  · simp only [getO_append]
    cases e : getO u l with
    | none => exact .inr ⟨rfl, rfl⟩
    | some x => exact .inl ⟨x, rfl, rfl⟩
theorem arunI_sound (hE : E.ok) (hT : T.ok P) {ops : Array Oper} {K : AState → Prop} {Q : Exit → Act → World → Prop} (hQ : ∀ s σ a w, K s → Rel P E s σ a w → Q .normal a w) :
    ∀ (l : List Oper) (i : Nat) (s : AState) (σ : Sig) (a : Act) (w : World), (∀ j, l[j]? = ops[i + j]?) → Rel P E s σ a w → arunI P T E.nt ops.toList l s K → wpOps P ops Q (List.range' i l.length) a w
  | [], i, s, σ, a, w, _, hR, h => by simpa [wpOps] using hQ s σ a w h hR
  | o :: l, i, s, σ, a, w, hl, hR, h => by
    have ho : ops[i]? = some o := by simpa using (hl 0).symm
    have hl' : ∀ j, l[j]? = ops[i + 1 + j]? := fun j => by have := hl (j + 1); simpa [Nat.add_assoc, Nat.add_comm 1 j] using this
    simp only [List.length_cons, List.range'_succ, wpOps, ho]
    unfold arunI at h
    obtain ⟨s', hK, hR'⟩ := guardK_sound (ops := ops) hR h
    cases hw : Region.wanted o (yielded ops a.tmps) with
    | true =>
      rw [hw] at hK
      simp only [if_true]
      exact .inl (Oper.wp_mono (fun a' w' ⟨s2, σ2, hs2, hR2⟩ => arunI_sound hE hT hQ l (i + 1) s2 σ2 a' w' hl' hR2 hs2) (opSI_sound hE hT hR' hK))
    | false =>
      rw [hw] at hK
      simp only [Bool.false_eq_true, if_false]
      obtain ⟨tm, ob⟩ := s'
      have hd : ∀ t, o.dst = some t → t < E.nt := by
        intro t ht
        simp only [ht] at hK
        unfold nextS at hK
        exact Nat.le_of_ble_eq_true (chk_true hK).1
      have h2 := hR'.skip o.dst hd
      refine arunI_sound hE hT hQ l (i + 1) _ σ _ w hl' h2 ?_
      cases hd' : o.dst with
      | none => rw [hd'] at hK; exact hK
      | some t => rw [hd'] at hK; exact (chk_true hK).2
end
def awpI (P : Program) (T : Tab) (nt : Nat) : Code → AState → (AExit → AState → Prop) → Prop
  | .skip, s, Q => Q .normal s
  | .region _ ops false, s, Q => arunI P T nt ops.toList ops.toList s (Q .normal)
  | .region _ ops true, s, Q => drawOk ops.toList = true ∧ arunD P T nt ops.toList ops.toList s [] (fun s log => logOk ops.toList log = true ∧ Q .normal s)
  | .seq x y, s, Q => awpI P T nt x s (thenK (fun s => awpI P T nt y s Q) Q)
  | .cond c x y, s, Q => match s with
    | ⟨tm, ob⟩ => match evO tm c with
      | .pv (.val (.bool b)) => (match b with | true => awpI P T nt x ⟨tm, ob⟩ Q | false => awpI P T nt y ⟨tm, ob⟩ Q)
      | .pv (.sb b) => (b = true → awpI P T nt x ⟨tm, ob⟩ Q) ∧ (b = false → awpI P T nt y ⟨tm, ob⟩ Q)
      | _ => False
  | .block id c, s, Q => awpI P T nt c s (blockK id Q)
  | .loop c, s, Q => ∃ (ι : Type) (J : ι → Prop) (I : ι → AState) (m : ι → Nat) (i0 : ι) (r : List (Nat × Nat)), J i0 ∧ entS r s (I i0) ∧
      ∀ i, J i → awpI P T nt c (I i) (thenK (fun s' => ∃ (j : ι) (r : List (Nat × Nat)), J j ∧ m j < m i ∧ entS r s' (I j)) Q)
  | .exit id, s, Q => Q (.exit id) s
  | .ret, s, Q => Q .ret s
  | _, _, _ => False
section
variable {P : Program} {T : Tab} {E : FEnv}
theorem awpI_sound (hE : E.ok) (hT : T.ok P) (hm : P.follows .mixedOrders = true) : ∀ (c : Code) (s : AState) (Q : AExit → AState → Prop) (σ : Sig) (a : Act) (w : World), Rel P E s σ a w → awpI P T E.nt c s Q → c.wp P (exitQ P E Q) a w
  | .skip, s, Q, σ, a, w, hR, h => wp_skip ⟨s, σ, h, hR⟩
  | .region id ops dr, s, Q, σ, a, w, hR, h => by
    cases dr with
    | false =>
      refine wp_region ?_
      have := arunI_sound hE hT (Q := exitQ P E Q) (fun s σ a w hs hR => ⟨s, σ, hs, hR⟩) ops.toList 0 s σ a w (fun j => by simp) hR h
      rw [List.range_eq_range']
      simpa using this
    | true =>
      obtain ⟨h1, h2⟩ := h
      exact wp_region_any hm (arunD_sound hE hT h1 (fun s σ a w hs hR => ⟨s, σ, hs, hR⟩) (RelF.drew hR _ (Nat.le_succ _)) h2)
  | .seq x y, s, Q, σ, a, w, hR, h => by
    refine wp_seq (wp_mono (awpI_sound hE hT hm x s _ σ a w hR h) (fun e a' w' he => ?_))
    cases e with
    | normal => obtain ⟨s', σ', hq, hR'⟩ := he; exact awpI_sound hE hT hm y s' Q σ' a' w' hR' hq
    | exit i => exact he
    | ret => exact he
    | goto l => exact he.elim
    | panic c => exact he.elim
    | outgrown => exact he.elim
  | .cond c x y, s, Q, σ, a, w, hR, h => by
    obtain ⟨tm, ob⟩ := s
    have hc := evO_rel hE hR c
    unfold awpI at h
    simp only at h
    split at h
    · rename_i b hb
      rw [show evO tm c = .pv (.val (.bool b)) from hb] at hc
      have hv := pr_val (arg_pv hc)
      refine wp_cond hv ?_
      cases b with
      | true => exact awpI_sound hE hT hm x _ Q σ a w hR h
      | false => exact awpI_sound hE hT hm y _ Q σ a w hR h
    · rename_i b hb
      rw [show evO tm c = .pv (.sb b) from hb] at hc
      have hv := pr_sb (arg_pv hc)
      refine wp_cond hv ?_
      cases b with
      | true => exact awpI_sound hE hT hm x _ Q σ a w hR (h.1 rfl)
      | false => exact awpI_sound hE hT hm y _ Q σ a w hR (h.2 rfl)
    · exact h.elim
  | .block id c, s, Q, σ, a, w, hR, h => by
    refine wp_block (wp_mono (awpI_sound hE hT hm c s _ σ a w hR h) (fun e a' w' he => ?_))
    cases e with
    | normal => exact he
    | exit i =>
      obtain ⟨s', σ', hq, hR'⟩ := he
      have hq : (match Nat.beq i id with | true => Q .normal s' | false => Q (.exit i) s') := hq
      simp only [Exit.inBlock]
      cases hb : Nat.beq i id with
      | true =>
        rw [hb] at hq
        rw [if_pos (Nat.eq_of_beq_eq_true hb)]
        exact ⟨s', σ', hq, hR'⟩
      | false =>
        rw [hb] at hq
        rw [if_neg (fun e => by rw [e] at hb; simp at hb)]
        exact ⟨s', σ', hq, hR'⟩
    | ret => exact he
    | goto l => exact he.elim
    | panic c => exact he.elim
    | outgrown => exact he.elim
  | .loop c, s, Q, σ, a, w, hR, h => by
    obtain ⟨ι, J, I, m, i0, r0, hJ, hent, hround⟩ := h
    obtain ⟨σ0, hR0⟩ := entS_sound hent E σ a w hE hR
    refine wp_loop_ix (I := fun i a w => J i ∧ ∃ σ, Rel P E (I i) σ a w) m (i0 := i0) ⟨hJ, σ0, hR0⟩ (fun i a w ⟨hj, σ, hr⟩ => ?_)
    refine wp_mono (awpI_sound hE hT hm c (I i) _ σ a w hr (hround i hj)) (fun e a' w' he => ?_)
    cases e with
    | normal =>
      obtain ⟨s', σ', ⟨j, r', hj', hlt, hent'⟩, hR'⟩ := he
      obtain ⟨σ2, hR2⟩ := entS_sound hent' E σ' a' w' hE hR'
      exact ⟨j, ⟨hj', σ2, hR2⟩, hlt⟩
    | exit i => exact he
    | ret => exact he
    | goto l => exact he.elim
    | panic c => exact he.elim
    | outgrown => exact he.elim
  | .exit id, s, Q, σ, a, w, hR, h => wp_exit ⟨s, σ, h, hR⟩
  | .ret, s, Q, σ, a, w, hR, h => wp_ret ⟨s, σ, h, hR⟩
  | .rangeFunc .., s, Q, σ, a, w, hR, h => h.elim
  | .scope _, s, Q, σ, a, w, hR, h => h.elim
  | .label _, s, Q, σ, a, w, hR, h => h.elim
  | .goto _, s, Q, σ, a, w, hR, h => h.elim
  | .refuse _, s, Q, σ, a, w, hR, h => h.elim
end
theorem AC.of_awp_ice {P : Program} {T : Tab} {f : FuncId} {fn : Func} {c : Code} {args : List AV} {res : PV} (hT : T.ok P) (hm : P.follows .mixedOrders = true) (hcall : ∀ (vals : Array Value) (w : World), (callFunc f vals).run P w = .ok (.enter f vals) w)
    (hf : P.funcs[f]? = some fn) (hb : fn.body = some c) (hn : Nat.ble args.length fn.ntmps = true) (hp : noRefs args = true) (h : awpI P T fn.ntmps c ⟨argTm 0 args, []⟩ (pureQ T fn res)) : AC P f args [] (.pv res) [] := by
  refine ⟨hcall, fun St M0 σ w vals hi hσ _ hl hA => ?_⟩
  have hσ' : σ = fun _ => none := funext fun l => hσ l rfl
  subst hσ'
  have hown : ∀ b, ¬ owned (fun _ => none) b := fun b ⟨l, loc, h, _⟩ => by cases h
  have hle := Nat.le_of_ble_eq_true hn
  have hE : FEnv.ok ⟨fn.ntmps, St, M0, fun _ => False, w, fun _ => none⟩ := ⟨fun b hb => ⟨(hi.m0 b hb).1, id⟩, fun b hb => ⟨(hi.st b hb).1, id⟩, hi.gl.mono (Same.refl _ w) (fun b _ hb => .inl (hb.elim id False.elim)), fun _ _ e => by cases e⟩
  have hget : ∀ t x, getT (argTm 0 args) t = x → x = .junk ∨ args[t]? = some x := by
    intro t x e
    rw [argTm_get, if_neg (by omega)] at e
    cases ha : args[t - 0]? with
    | none => rw [ha] at e; exact .inl e.symm
    | some y => rw [ha] at e; simp at e ha; subst e; exact .inr rfl
  have hR : Rel P ⟨fn.ntmps, St, M0, fun _ => False, w, fun _ => none⟩ ⟨argTm 0 args, []⟩ (fun _ => none) { tmps := vals ++ Array.replicate (fn.ntmps - vals.size) undef, defers := [] } w := by
    refine ⟨by simp; omega, rfl, fun t => ?_, fun l o e => by simp [getO] at e, fun _ _ => rfl, fun t l hl' => ?_, fun i o e => by simp [getO] at e, fun l l' loc loc' b e => (by cases e), fun b hb => absurd hb (hown b), FExt.refl _ w, fun _ _ e => by cases e⟩
    · rcases hget t _ rfl with e | e
      · rw [e]; exact .junk _
      · have := hA t _ e
        have hlt : t < args.length := (List.getElem?_eq_some_iff.1 e).1
        rw [getD_append_left (by omega)]
        exact this
    · rcases hget t _ rfl with e | e
      · rw [e] at hl'; simp [refs] at hl'
      · rw [noRefs_spec hp t _ e] at hl'; simp at hl'
  refine calls_of_wp hf hb (wp_mono (awpI_sound hE hT hm c _ _ _ _ w hR h) (fun e a' w' he => ?_))
  have fin : (∃ s σ, resQ T fn.results.toList res s ∧ Rel P ⟨fn.ntmps, St, M0, fun _ => False, w, fun _ => none⟩ s σ a' w') → a'.defers = [] ∧ ∃ v, (results fn a'.tmps).run P w' = .ok v w' ∧ ∃ v_1 σ', Ending.returned v = .returned v_1 ∧ Post P St M0 (fun _ => none) w [] (.pv res) σ' v_1 w' := by
    rintro ⟨s, σ, hq, hR'⟩
    obtain ⟨v, hr, hpv⟩ := results_run hE hT hR' hq
    refine ⟨hR'.df, v, hr, v, fun _ => none, rfl, ?_⟩
    refine ⟨.pv _ _ (hpv.mono (Same.refl _ w') (fun b _ hb => ?_)), fun l o e => by simp [getO] at e, fun _ _ => rfl, fun l loc loc' e => (by cases e), fun l l' loc loc' b e => (by cases e), fun b hb => absurd hb (hown b), hR'.ext.mono (fun _ _ h => h.elim)⟩
    rcases hb with hb | hb
    · exact hb
    · exact absurd hb (hown b)
  cases e with
  | normal => exact fin he
  | ret => exact fin he
  | exit i => obtain ⟨s, σ, hq, _⟩ := he; exact hq.elim
  | goto l => exact he.elim
  | panic c => exact he.elim
  | outgrown => exact he.elim
end Go.Abs

namespace Go.Abs
open Go.Proofs
set_option maxRecDepth 10000
def longB (c : SyC) : Bool := largeB c.h || decide (40 < c.a.items.length ∨ 40 < c.s.reported.length ∨ 40 < c.s.desired.length ∨ 40 < c.m.items.length)
theorem ac_law26_long (c : SyC) (hc : smallSyC c) : AC Tryz.prog 10 [.pv (.agg (cSyC c))] [] (.pv (vbool (longB c))) [] := by
  refine AC.of_awp (T := T) T_ok hm Tryz.call10 Tryz.func10 rfl rfl rfl ?_
  conv => whnf
  repeat (any_goals (first
    | (refine ⟨fun (h : (_ : Bool) = true) => ?_, fun (h : (_ : Bool) = false) => ?_⟩ <;> (try simp only [decide_eq_true_eq, decide_eq_false_iff_not, Bool.not_eq_true', Bool.not_eq_false', Int.toNat_natCast, beq_iff_eq, decide_eq_decide, beq_eq_false_iff_ne, ne_eq, reduceCtorEq] at h) <;> (conv => whnf))
    | (refine .inl ⟨_, ac_law26_large c.h hc.h, ?_⟩; conv => whnf)
    | (refine And.intro (by (try simp only [Int.toNat_natCast]); omega) ?_; conv => whnf)
    | (refine And.intro (show (_ : Bool) = true from by kernel_rfl) ?_; conv => whnf)
    | (refine .inl ⟨wrap64 (by omega), ?_⟩; conv => whnf)))
  all_goals first
    | exact PSub.lit_sb (by unfold longB; rw [h]; rfl)
    | exact PSub.lit_sb (by unfold longB; rw [Bool.eq_iff_iff]; simp only [Bool.or_eq_true, decide_eq_true_eq, true_iff]; right; omega)
    | exact PSub.sb (by unfold longB; rw [‹largeB c.h = false›, Bool.false_or, decide_eq_decide]; omega)
    | trace_state
def homeY : Hom := ⟨[⟨(⟨#[97]⟩ : ByteArray), [⟨(⟨#[120]⟩ : ByteArray), 1, 0, 0, [], true, false⟩, ⟨(⟨#[121]⟩ : ByteArray), 2, 0, 9, [], true, false⟩, ⟨(⟨#[122]⟩ : ByteArray), 2, 0, 9, [], false, false⟩], [], []⟩], [⟨5, 1, 0, false, 0, (⟨#[104, 97, 108, 108]⟩ : ByteArray), [(⟨#[97]⟩ : ByteArray)]⟩]⟩
theorem smallK_Y : smallK (homeY.clusters.getD 0 default) := by
  refine ⟨sl rfl, fun i => ?_, sl rfl, fun i => ?_, sl rfl⟩
  · match i with
    | 0 => exact sl rfl
    | 1 => exact sl rfl
    | 2 => exact sl rfl
    | i + 3 =>
      have : (homeY.clusters.getD 0 default).attrs.getD (i + 3) default = default := rfl
      rw [this]; exact Nat.zero_le _
  · have : (homeY.clusters.getD 0 default).commands.getD i default = default := rfl
    rw [this]; exact ⟨Nat.zero_le _, Nat.zero_le _⟩
theorem smallH_Y : smallH homeY := by
  refine ⟨⟨sl rfl, fun i => ?_⟩, sl rfl, fun i => ?_⟩
  · cases i with
    | zero => exact smallK_Y
    | succ i =>
      have : homeY.clusters.getD (i + 1) default = default := rfl
      rw [this]; exact small_default
  · cases i with
    | zero => exact ⟨sl rfl, by decide, by decide⟩
    | succ i =>
      have : homeY.devices.getD (i + 1) default = default := rfl
      rw [this]; exact ⟨Nat.zero_le _, by decide, by decide⟩
theorem ac_law26_house : AC Tryz.prog 41 [] [] (.pv (.agg (cHom homeY))) [] := by
  refine AC.of_awp_ice (T := T) T_ok hm Tryz.call41 Tryz.func41 rfl rfl rfl ?_
  conv => whnf
  repeat (any_goals (first
    | (refine ⟨fun (h : (_ : Bool) = true) => ?_, fun (h : (_ : Bool) = false) => ?_⟩ <;> (try simp only [decide_eq_true_eq, decide_eq_false_iff_not, Bool.not_eq_true', Bool.not_eq_false', Int.toNat_natCast, beq_iff_eq, decide_eq_decide, beq_eq_false_iff_ne, ne_eq, reduceCtorEq] at h) <;> (conv => whnf))
    | (refine And.intro (by (try simp only [Int.toNat_natCast]); omega) ?_; conv => whnf)
    | (refine And.intro (show (_ : Bool) = true from by kernel_rfl) ?_; conv => whnf)
    | (refine .inl ⟨wrap64 (by omega), ?_⟩; conv => whnf)))
  all_goals
    repeat' (first | exact PSub.rfl | exact PSub.nil_ro _ _ | exact PSub.lit_sb rfl | exact trivial | exact all_lt_zero | refine PSub.agg ?_ | refine PSub.ro rfl ?_ | refine all_lt_succ ?_ ?_ | refine And.intro ?_ ?_)
def itY (k : ByteArray) (q : Int) (v : Int) : Item := ⟨⟨5, (⟨#[97]⟩ : ByteArray), k⟩, ⟨q, 0, ⟨#[]⟩⟩, v⟩
def iY : List Item := [itY (⟨#[120]⟩ : ByteArray) 1 1, itY (⟨#[121]⟩ : ByteArray) 2 2, itY (⟨#[122]⟩ : ByteArray) 2 3]
def aY0 : Agt := ⟨5, 1, 0, 0, -1, iY⟩
def aY1 : Agt := ⟨5, 1, 0, 0, 5, iY⟩
def aY2 : Agt := ⟨5, 1, 3, 0, -1, iY⟩
def aY3 : Agt := ⟨5, 1, 3, 4, -1, iY⟩
def mY1 : Msg := ⟨1, 5, 1, 3, iY, ⟨#[]⟩, ⟨#[]⟩, ⟨#[]⟩⟩
def mY2 : Msg := ⟨2, 5, 1, 3, [], ⟨#[]⟩, ⟨#[]⟩, ⟨#[]⟩⟩
def mY3 : Msg := ⟨3, 5, 1, 4, [⟨⟨5, (⟨#[97]⟩ : ByteArray), (⟨#[121]⟩ : ByteArray)⟩, ⟨2, 7, ⟨#[]⟩⟩, 4⟩], ⟨#[]⟩, ⟨#[]⟩, ⟨#[]⟩⟩
def mY4 : Msg := ⟨4, 5, 1, 4, [], ⟨#[]⟩, ⟨#[]⟩, ⟨#[]⟩⟩
def sY0 : Shd := ⟨5, 0, 0, [itY (⟨#[120]⟩ : ByteArray) 1 0, itY (⟨#[121]⟩ : ByteArray) 2 0, itY (⟨#[122]⟩ : ByteArray) 2 0], [], 0, 0, -1, 0⟩
def sY1 : Shd := ⟨5, 1, 3, iY, [], 0, 0, -1, 0⟩
theorem y0 : newA homeY 5 1 = aY0 := by kernel_rfl
theorem y1 : outA aY0 5 = aY1 := by kernel_rfl
theorem y2 : outM aY0 5 = mY1 := by kernel_rfl
theorem y3 : outB aY0 5 = true := by kernel_rfl
theorem y4 : outB aY1 14 = false := by kernel_rfl
theorem y5 : outM aY1 15 = mY1 := by kernel_rfl
theorem y6 : outB aY1 15 = true := by kernel_rfl
theorem y7 : newS homeY 5 = sY0 := by kernel_rfl
theorem y8 : givS homeY sY0 mY1 = sY1 := by kernel_rfl
theorem y9 : givK homeY sY0 mY1 = [] := by kernel_rfl
theorem y10 : givM sY0 mY1 = mY2 := by kernel_rfl
theorem y11 : givB sY0 mY1 = true := by kernel_rfl
theorem y12 : takA homeY aY1 mY2 = aY2 := by kernel_rfl
theorem y13 : outB aY2 99 = false := by kernel_rfl
theorem y14 : eqlB sY1 aY2 = true := by kernel_rfl
theorem y15 : takA homeY aY3 mY3 = aY3 := by kernel_rfl
theorem y16 : takM aY3 mY3 = mY4 := by kernel_rfl
theorem y17 : takB aY3 mY3 = true := by kernel_rfl
theorem bool_no {b : Bool} (h : b = false) (k : b = true) : False := by rw [h] at k; cases k
theorem bool_no2 {b : Bool} (h : b = true) (k : b = false) : False := by rw [h] at k; cases k
set_option maxHeartbeats 1000000 in
theorem ac_law26_awake : AC Tryz.prog 11 [] [] (.pv (vbool true)) [] := by
  have sA : smallL iY := sl rfl
  have c0 := ac_sync_New homeY 5 1 smallH_Y
  have c1 := ac_sync_Out aY0 5 sA
  have c2 := ac_sync_Out aY1 14 sA
  have c3 := ac_sync_Out aY1 15 sA
  have c4 := ac_shadow_New homeY 5 smallH_Y
  have c5 := ac_sync_Give homeY sY0 mY1 smallH_Y ⟨sl rfl, sl rfl⟩ sA
  have c6 := ac_sync_Take homeY aY1 mY2 smallH_Y sA (sl rfl)
  have c7 := ac_sync_Out aY2 99 sA
  have c8 := ac_r26_Alike mY1 mY1 sA
  have c9 := ac_sync_Equal sY1 aY2 ⟨sA, sl rfl⟩ sA
  have c10 := ac_sync_Take homeY aY3 mY3 smallH_Y sA (sl rfl)
  have c11 := ac_r22_Same iY iY (show 3 ≤ 4194304 by decide)
  rw [y0] at c0
  rw [y1, y2, y3] at c1
  rw [y4] at c2
  rw [y5, y6] at c3
  rw [y7] at c4
  rw [y8, y9, y10, y11] at c5
  rw [y12] at c6
  rw [y13] at c7
  rw [y14] at c9
  rw [y15, y16, y17] at c10
  rw [decide_eq_true rfl] at c8 c11
  refine AC.of_awp (T := T) T_ok hm Tryz.call11 Tryz.func11 rfl rfl rfl ?_
  conv => whnf
  repeat (any_goals (first
    | (refine ⟨fun (h : (_ : Bool) = true) => ?_, fun (h : (_ : Bool) = false) => ?_⟩ <;> (try simp only [decide_eq_true_eq, decide_eq_false_iff_not, Bool.not_eq_true', Bool.not_eq_false', Int.toNat_natCast, beq_iff_eq, decide_eq_decide, beq_eq_false_iff_ne, ne_eq, reduceCtorEq] at h) <;> (conv => whnf))
    | (refine .inl ⟨_, ac_law26_house, ?_⟩; conv => whnf)
    | (refine .inl ⟨_, c0, ?_⟩; conv => whnf)
    | (refine .inl ⟨_, c1, ?_⟩; conv => whnf)
    | (refine .inl ⟨_, c2, ?_⟩; conv => whnf)
    | (refine .inl ⟨_, c3, ?_⟩; conv => whnf)
    | (refine .inl ⟨_, c4, ?_⟩; conv => whnf)
    | (refine .inl ⟨_, c5, ?_⟩; conv => whnf)
    | (refine .inl ⟨_, c6, ?_⟩; conv => whnf)
    | (refine .inl ⟨_, c7, ?_⟩; conv => whnf)
    | (refine .inl ⟨_, c8, ?_⟩; conv => whnf)
    | (refine .inl ⟨_, c9, ?_⟩; conv => whnf)
    | (refine .inl ⟨_, AC.sub3 (c10) (by repeat' (first | exact PSub.rfl | exact PSub.nil_ro _ _ | exact PSub.lit_sb rfl | exact trivial | exact all_lt_zero | refine PSub.agg ?_ | refine PSub.ro rfl ?_ | refine all_lt_succ ?_ ?_ | refine And.intro ?_ ?_)) (by repeat' (first | exact PSub.rfl | exact PSub.nil_ro _ _ | exact PSub.lit_sb rfl | exact trivial | exact all_lt_zero | refine PSub.agg ?_ | refine PSub.ro rfl ?_ | refine all_lt_succ ?_ ?_ | refine And.intro ?_ ?_)) (by repeat' (first | exact PSub.rfl | exact PSub.nil_ro _ _ | exact PSub.lit_sb rfl | exact trivial | exact all_lt_zero | refine PSub.agg ?_ | refine PSub.ro rfl ?_ | refine all_lt_succ ?_ ?_ | refine And.intro ?_ ?_)), ?_⟩; conv => whnf)
    | (refine .inl ⟨_, c11, ?_⟩; conv => whnf)
    | (refine And.intro (by (try simp only [Int.toNat_natCast]); omega) ?_; conv => whnf)
    | (refine And.intro (show (_ : Bool) = true from by kernel_rfl) ?_; conv => whnf)
    | (refine .inl ⟨wrap64 (by omega), ?_⟩; conv => whnf)))
  all_goals first
    | exact PSub.sb rfl
    | exact PSub.lit_sb rfl
    | exact absurd trivial h
    | exact absurd rfl h
    | (exfalso; exact h (by kernel_rfl))
    | exact (bool_no h (by kernel_rfl)).elim
    | exact (bool_no2 h (by kernel_rfl)).elim
    | (exfalso; simp at h; done)
    | trace_state
end Go.Abs
