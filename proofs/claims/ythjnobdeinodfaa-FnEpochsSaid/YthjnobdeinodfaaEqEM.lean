/-
Epochs follow one another: the plain law.
-/
import Derived.Test.YthjnobdeinodfaaEqDY
set_option linter.unusedVariables false
set_option linter.unusedSimpArgs false
namespace Go.Proofs.Ythjnobdeinodfaa.Flat
theorem epLoop (L : List Epoch) (f : Bool) : ∀ (r : List Epoch) (k : Nat), loopL (epStep L) (fun _ => f) k r () = true ↔ f = true ∧ ∀ j e, r[j]? = some e → isEpoch e = true ∧ follows L (k + j) e = true
  | [], k => by simp [loopL]
  | x :: r, k => by
    simp -implicitDefEqProofs only [loopL, epStep]
    by_cases h : (isEpoch x && follows L k x) = true
    · rw [if_pos h]
      simp only
      rw [epLoop L f r (k + 1)]
      rw [Bool.and_eq_true] at h
      constructor
      · rintro ⟨h1, h2⟩
        refine ⟨h1, fun j e he => ?_⟩
        cases j with
        | zero => simp at he; subst he; exact h
        | succ j => simp at he; have := h2 j e he; rw [show k + (j + 1) = k + 1 + j by omega]; exact this
      · rintro ⟨h1, h2⟩
        refine ⟨h1, fun j e he => ?_⟩
        have := h2 (j + 1) e (by simpa using he)
        rw [show k + (j + 1) = k + 1 + j by omega] at this
        exact this
    · rw [if_neg h]
      simp only
      constructor
      · intro h1; simp at h1
      · rintro ⟨h1, h2⟩
        have := h2 0 x (by simp)
        rw [Nat.add_zero] at this
        rw [Bool.and_eq_true] at h
        exact absurd this h
theorem areEpochs_iff {l : List Epoch} : areEpochs l = true ↔ l.length ≤ 6 ∧ ∀ j e, l[j]? = some e → isEpoch e = true ∧ follows l j e = true := by
  unfold areEpochs
  rw [epLoop l (decide ((l.length : Int) ≤ 6)) l 0]
  simp -implicitDefEqProofs only [decide_eq_true_eq, Nat.zero_add]
  constructor
  · rintro ⟨h1, h2⟩; exact ⟨by omega, h2⟩
  · rintro ⟨h1, h2⟩; exact ⟨by omega, h2⟩
/-- Ascending: numbers strictly, times weakly. -/
def Before (a b : Epoch) : Prop := a.number < b.number ∧ a.at_ ≤ b.at_
theorem follows_at {l : List Epoch} {j : Nat} {a b : Epoch} (ha : l[j]? = some a) (h : follows l (j + 1) b = true) : Before a b := by
  unfold follows at h
  simp -implicitDefEqProofs only [Nat.add_sub_cancel, List.getD_eq_getElem?_getD, ha, Option.getD_some] at h
  simp -implicitDefEqProofs only [Nat.add_eq_zero_iff, Nat.one_ne_zero, and_false, decide_false, Bool.false_or, Bool.and_eq_true, decide_eq_true_eq] at h
  exact h
theorem epochs_sorted {l : List Epoch} (h : areEpochs l = true) : ∀ (j i : Nat) (a b : Epoch), i < j → l[i]? = some a → l[j]? = some b → Before a b
  | 0, i, a, b, hij, ha, hb => by omega
  | j + 1, i, a, b, hij, ha, hb => by
    have hj : j < l.length := by have := (List.getElem?_eq_some_iff.1 hb).1; omega
    have hf := follows_at (List.getElem?_eq_getElem hj) ((areEpochs_iff.1 h).2 (j + 1) b hb).2
    rcases Nat.lt_or_ge i j with h1 | h1
    · have h2 := epochs_sorted h j i a l[j] h1 ha (List.getElem?_eq_getElem hj)
      exact ⟨by have := h2.1; have := hf.1; omega, by have := h2.2; have := hf.2; omega⟩
    · have : i = j := by omega
      subst this
      rw [List.getElem?_eq_getElem hj] at ha
      obtain rfl := Option.some.inj ha
      exact hf
theorem epoch_num {e : Epoch} (h : isEpoch e = true) : 0 ≤ e.number ∧ e.number ≤ 999 := by
  unfold isEpoch at h
  rw [Bool.and_eq_true] at h
  have := h.1
  simpa [inR] using this
theorem newest_end (l : List Epoch) (e : Epoch) : newest (l ++ [e]) = e.number := by simp [newest]
theorem areEpochs_snoc {l : List Epoch} {e : Epoch} (h : areEpochs l = true) (hl : l.length < 6) (he : isEpoch e = true) (hb : ∀ a, l.getLast? = some a → Before a e) : areEpochs (l ++ [e]) = true := by
  rw [areEpochs_iff] at h ⊢
  refine ⟨by simp; omega, fun j x hx => ?_⟩
  rcases Nat.lt_or_ge j l.length with h1 | h1
  · rw [List.getElem?_append_left h1] at hx
    obtain ⟨h2, h3⟩ := h.2 j x hx
    refine ⟨h2, ?_⟩
    unfold follows at h3 ⊢
    have : (l ++ [e]).getD (j - 1) default = l.getD (j - 1) default := by
      rw [List.getD_eq_getElem?_getD, List.getD_eq_getElem?_getD, List.getElem?_append_left (by omega)]
    rw [this]
    exact h3
  · rw [List.getElem?_append_right h1] at hx
    have hj : j = l.length := by
      have := (List.getElem?_eq_some_iff.1 hx).1
      simp at this; omega
    subst hj
    simp at hx
    subst hx
    refine ⟨he, ?_⟩
    unfold follows
    cases hl0 : l with
    | nil => simp
    | cons c r =>
      have hlast : l.getLast? = l[l.length - 1]? := List.getLast?_eq_getElem?
      have hlt : l.length - 1 < l.length := by rw [hl0]; simp
      have hb' := hb _ (hlast.trans (List.getElem?_eq_getElem hlt))
      rw [← hl0]
      have : (l ++ [e]).getD (l.length - 1) default = l[l.length - 1] := by
        rw [List.getD_eq_getElem?_getD, List.getElem?_append_left hlt, List.getElem?_eq_getElem hlt]; rfl
      rw [this]
      simp -implicitDefEqProofs only [Bool.or_eq_true, Bool.and_eq_true, decide_eq_true_eq]
      exact .inr hb'
theorem pubOut_last (l : List Epoch) (e : Epoch) : ∃ l0, pubOut l e = l0 ++ [e] ∧ (l.length ≠ 6 → l0 = l) := by
  unfold pubOut
  split
  · rename_i h
    cases l with
    | nil => simp at h
    | cons c r => exact ⟨r, rfl, fun h' => absurd h h'⟩
  · exact ⟨l, rfl, fun _ => rfl⟩
theorem newest_pubOut (l : List Epoch) (e : Epoch) : newest (pubOut l e) = e.number := by
  obtain ⟨l0, h, _⟩ := pubOut_last l e
  rw [h, newest_end]
theorem numberAt_snoc (l : List Epoch) (e : Epoch) (t : Int) : numberAt (l ++ [e]) t = if e.at_ ≤ t then e.number else numberAt l t := by
  simp [numberAt, List.foldl_append]
theorem numberAt_pubOut (l : List Epoch) (e : Epoch) : numberAt (pubOut l e) e.at_ = e.number := by
  obtain ⟨l0, h, _⟩ := pubOut_last l e
  rw [h, numberAt_snoc, if_pos (Int.le_refl _)]
theorem indexBy_snoc {α : Type} {p : α → Bool} {x : α} (hx : p x = true) : ∀ (l : List α) (k : Nat), (∀ y ∈ l, p y = false) → indexBy p k (l ++ [x]) = ((k + l.length : Nat) : Int)
  | [], k, _ => by simp [indexBy, hx]
  | y :: r, k, h => by
    have h1 := h y (by simp)
    simp -implicitDefEqProofs only [List.cons_append, indexBy, h1, Bool.false_eq_true, if_false]
    rw [indexBy_snoc hx r (k + 1) fun z hz => h z (by simp [hz])]
    simp -implicitDefEqProofs only [List.length_cons]
    omega
theorem find_pubOut {l : List Epoch} {e : Epoch} (h : areEpochs (pubOut l e) = true) : findEpoch (pubOut l e) e.number = ((pubOut l e).length : Int) - 1 := by
  obtain ⟨l0, h0, _⟩ := pubOut_last l e
  rw [h0] at h ⊢
  unfold findEpoch
  rw [indexBy_snoc (by simp) l0 0 fun y hy => ?_]
  · simp -implicitDefEqProofs only [List.length_append, List.length_singleton]; omega
  · obtain ⟨i, hi, rfl⟩ := List.getElem_of_mem hy
    have := epochs_sorted h l0.length i l0[i] e hi (by rw [List.getElem?_append_left hi, List.getElem?_eq_getElem hi]) (by simp)
    have := this.1
    simp; omega
theorem sorted_front {l : List Epoch} {e : Epoch} (h : areEpochs (l ++ [e]) = true) : areEpochs l = true := by
  rw [areEpochs_iff] at h ⊢
  refine ⟨by have := h.1; simp at this; omega, fun j x hx => ?_⟩
  have h1 := (List.getElem?_eq_some_iff.1 hx).1
  obtain ⟨h2, h3⟩ := h.2 j x (by rw [List.getElem?_append_left h1]; exact hx)
  refine ⟨h2, ?_⟩
  unfold follows at h3 ⊢
  have : (l ++ [e]).getD (j - 1) default = l.getD (j - 1) default := by
    rw [List.getD_eq_getElem?_getD, List.getD_eq_getElem?_getD, List.getElem?_append_left (by omega)]
  rw [← this]
  exact h3
theorem list_rev {α : Type} {p : List α → Prop} (h0 : p []) (h1 : ∀ l x, p l → p (l ++ [x])) (l : List α) : p l := by
  have h : ∀ r : List α, p r.reverse := fun r => by
    induction r with
    | nil => exact h0
    | cons x r ih => rw [List.reverse_cons]; exact h1 _ _ ih
  have := h l.reverse
  rwa [List.reverse_reverse] at this
/-- The number at a time: none yet, or that of an epoch from then or before. -/
theorem numberAt_cases (l : List Epoch) (t : Int) : numberAt l t = 0 ∨ ∃ e ∈ l, e.at_ ≤ t ∧ numberAt l t = e.number := by
  refine list_rev (p := fun l => numberAt l t = 0 ∨ ∃ e ∈ l, e.at_ ≤ t ∧ numberAt l t = e.number) (.inl rfl) (fun l e ih => ?_) l
  rw [numberAt_snoc]
  split
  · exact .inr ⟨e, by simp, by assumption, rfl⟩
  · rcases ih with h | ⟨x, hx, h1, h2⟩
    · exact .inl h
    · exact .inr ⟨x, by simp [hx], h1, h2⟩
theorem last_num {l : List Epoch} {e x : Epoch} (h : areEpochs (l ++ [e]) = true) (hx : x ∈ l) : x.number < e.number := by
  obtain ⟨i, hi, rfl⟩ := List.getElem_of_mem hx
  exact (epochs_sorted h l.length i l[i] e hi (by rw [List.getElem?_append_left hi, List.getElem?_eq_getElem hi]) (by simp)).1
theorem mem_num {l : List Epoch} {x : Epoch} (h : areEpochs l = true) (hx : x ∈ l) : 0 ≤ x.number := by
  obtain ⟨i, hi, rfl⟩ := List.getElem_of_mem hx
  exact (epoch_num ((areEpochs_iff.1 h).2 i l[i] (List.getElem?_eq_getElem hi)).1).1
theorem numberAt_le {l : List Epoch} (h : areEpochs l = true) (t : Int) : numberAt l t ≤ newest l := by
  rcases numberAt_cases l t with h0 | ⟨x, hx, _, h2⟩
  · rw [h0]
    revert h
    refine list_rev (p := fun l => areEpochs l = true → 0 ≤ newest l) (fun _ => by simp [newest]) (fun l e _ h => ?_) l
    rw [newest_end]
    exact mem_num h (by simp)
  · rw [h2]
    revert h hx
    refine list_rev (p := fun l => areEpochs l = true → x ∈ l → x.number ≤ newest l) (fun _ h => by simp at h) (fun l e _ h hx => ?_) l
    rw [newest_end]
    rcases List.mem_append.1 hx with h3 | h3
    · have := last_num h h3; omega
    · simp at h3; subst h3; omega
theorem numberAt_mono {l : List Epoch} (h : areEpochs l = true) {t t' : Int} (ht : t ≤ t') : numberAt l t ≤ numberAt l t' := by
  revert h
  refine list_rev (p := fun l => areEpochs l = true → numberAt l t ≤ numberAt l t') (fun _ => by simp [numberAt]) (fun l e ih h => ?_) l
  rw [numberAt_snoc, numberAt_snoc]
  by_cases h1 : e.at_ ≤ t
  · rw [if_pos h1, if_pos (by omega)]; omega
  · rw [if_neg h1]
    by_cases h2 : e.at_ ≤ t'
    · rw [if_pos h2]
      rcases numberAt_cases l t with h3 | ⟨x, hx, _, h3⟩
      · rw [h3]; exact mem_num h (by simp)
      · rw [h3]; have := last_num h hx; omega
    · rw [if_neg h2]
      exact ih (sorted_front h)
theorem indexBy_first {α : Type} {p : α → Bool} : ∀ (l : List α) (k i : Nat) (hi : i < l.length), p l[i] = true → (∀ j (hj : j < l.length), j < i → p l[j] = false) → indexBy p k l = ((k + i : Nat) : Int)
  | x :: r, k, 0, _, h, _ => by simp -implicitDefEqProofs only [List.getElem_cons_zero] at h; simp -implicitDefEqProofs only [indexBy, h, if_true, Nat.add_zero]
  | x :: r, k, i + 1, hi, h, h' => by
    have h1 := h' 0 (by simp) (by omega)
    simp -implicitDefEqProofs only [List.getElem_cons_zero] at h1
    simp -implicitDefEqProofs only [indexBy, h1, Bool.false_eq_true, if_false]
    rw [indexBy_first r (k + 1) i (by simpa using hi) (by simpa using h) fun j hj hji => by have := h' (j + 1) (by simpa using hj) (by omega); simpa using this]
    omega
theorem find_numberAt {l : List Epoch} {t : Int} (h : areEpochs l = true) (hn : 0 < numberAt l t) : ∃ i, ∃ hi : i < l.length, findEpoch l (numberAt l t) = (i : Int) ∧ l[i].at_ ≤ t := by
  rcases numberAt_cases l t with h0 | ⟨x, hx, h1, h2⟩
  · omega
  · obtain ⟨i, hi, rfl⟩ := List.getElem_of_mem hx
    refine ⟨i, hi, ?_, h1⟩
    unfold findEpoch
    rw [indexBy_first l 0 i hi (by simp [h2]) fun j hj hji => ?_]
    · omega
    · have := (epochs_sorted h i j l[j] l[i] hji (List.getElem?_eq_getElem hj) (List.getElem?_eq_getElem hi)).1
      rw [h2]
      simp; omega
end Go.Proofs.Ythjnobdeinodfaa.Flat
