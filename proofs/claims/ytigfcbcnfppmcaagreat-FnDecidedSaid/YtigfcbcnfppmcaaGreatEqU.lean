/-
Whole numbers in order, each once: the plain law, no program in sight.
-/
import Derived.Test.YtigfcbcnfppmcaaGreatFlatM4
set_option linter.unusedVariables false
set_option linter.unusedSimpArgs false
namespace Go.Proofs.YtigfcbcnfppmcaaGreat.Flat
open Go.Lib
/-- In order, each once. -/
def sortUniq (zs : List Int) : List Int := compact (ascending zs)
theorem strict_ext : ∀ {xs ys : List Int}, xs.Pairwise (· < ·) → ys.Pairwise (· < ·) → (∀ x, x ∈ xs ↔ x ∈ ys) → xs = ys
  | [], [], _, _, _ => rfl
  | [], y :: ys, _, _, h => by have := (h y).2 (by simp); simp at this
  | x :: xs, [], _, _, h => by have := (h x).1 (by simp); simp at this
  | x :: xs, y :: ys, hx, hy, h => by
    rw [List.pairwise_cons] at hx hy
    have h1 : x = y := by
      have a := (h x).1 (by simp)
      have b := (h y).2 (by simp)
      rcases List.mem_cons.1 a with a | a
      · exact a
      · rcases List.mem_cons.1 b with b | b
        · exact b.symm
        · have := hx.1 y b; have := hy.1 x a; omega
    subst h1
    congr 1
    refine strict_ext hx.2 hy.2 fun z => ?_
    constructor
    · intro hz
      rcases List.mem_cons.1 ((h z).1 (by simp [hz])) with e | e
      · have := hx.1 z hz; omega
      · exact e
    · intro hz
      rcases List.mem_cons.1 ((h z).2 (by simp [hz])) with e | e
      · have := hy.1 z hz; omega
      · exact e
theorem upTo_spec {d : Array Int} (hs : ∀ i j, i ≤ j → j < d.size → d[i]! ≤ d[j]!) : ∀ m, m ≤ d.size → (compactUpTo d m).Pairwise (· < ·) ∧ ∀ x, x ∈ compactUpTo d m ↔ ∃ i, i < m ∧ d[i]! = x
  | 0, _ => ⟨by simp [compactUpTo], fun x => by simp [compactUpTo]⟩
  | m + 1, hm => by
    obtain ⟨h1, h2⟩ := upTo_spec hs m (by omega)
    rw [compactUpTo_succ]
    by_cases hk : keeps d m = true
    · rw [if_pos hk]
      refine ⟨?_, fun x => ?_⟩
      · rw [List.pairwise_append]
        refine ⟨h1, by simp, fun a ha b hb => ?_⟩
        obtain rfl := List.mem_singleton.1 hb
        obtain ⟨i, hi, rfl⟩ := (h2 a).1 ha
        have hle := hs i (m - 1) (by omega) (by omega)
        have hle2 := hs (m - 1) m (by omega) (by omega)
        simp -implicitDefEqProofs only [keeps, decide_eq_true_eq] at hk
        have := hk.resolve_left (by omega)
        omega
      · rw [List.mem_append, h2, List.mem_singleton]
        constructor
        · rintro (⟨i, hi, rfl⟩ | rfl)
          · exact ⟨i, by omega, rfl⟩
          · exact ⟨m, by omega, rfl⟩
        · rintro ⟨i, hi, rfl⟩
          by_cases e : i = m
          · exact .inr (by rw [e])
          · exact .inl ⟨i, by omega, rfl⟩
    · rw [if_neg hk, List.append_nil]
      refine ⟨h1, fun x => ?_⟩
      rw [h2]
      simp -implicitDefEqProofs only [keeps, decide_eq_true_eq, not_or, Classical.not_not] at hk
      constructor
      · rintro ⟨i, hi, rfl⟩
        exact ⟨i, by omega, rfl⟩
      · rintro ⟨i, hi, rfl⟩
        by_cases e : i = m
        · exact ⟨m - 1, by omega, by rw [e]; exact hk.2.symm⟩
        · exact ⟨i, by omega, rfl⟩
theorem ascending_sorted (zs : List Int) : (ascending zs).Pairwise (· ≤ ·) := by
  have := List.pairwise_mergeSort (le := fun x y : Int => decide (x ≤ y)) (fun a b c h1 h2 => by simp at *; omega) (fun a b => by simp; omega) zs
  exact this.imp (by simp)
theorem ascending_mem (zs : List Int) (x : Int) : x ∈ ascending zs ↔ x ∈ zs := by
  unfold ascending
  exact List.mem_mergeSort
theorem sortUniq_spec (zs : List Int) : (sortUniq zs).Pairwise (· < ·) ∧ ∀ x, x ∈ sortUniq zs ↔ x ∈ zs := by
  have hs : ∀ i j, i ≤ j → j < (ascending zs).toArray.size → (ascending zs).toArray[i]! ≤ (ascending zs).toArray[j]! := by
    intro i j hij hj
    have hj' : j < (ascending zs).length := by simpa using hj
    rw [getElem!_pos (ascending zs).toArray i (by simp; omega), getElem!_pos (ascending zs).toArray j hj]
    simp -implicitDefEqProofs only [List.getElem_toArray]
    rcases Nat.lt_or_eq_of_le hij with h | rfl
    · exact List.pairwise_iff_getElem.1 (ascending_sorted zs) i j (by omega) hj' h
    · exact Int.le_refl _
  obtain ⟨h1, h2⟩ := upTo_spec hs (ascending zs).length (by simp)
  refine ⟨h1, fun x => ?_⟩
  rw [show sortUniq zs = compactUpTo (ascending zs).toArray (ascending zs).length from rfl, h2, ← ascending_mem zs x]
  constructor
  · rintro ⟨i, hi, rfl⟩
    rw [getElem!_pos (ascending zs).toArray i (by simpa using hi)]
    simp
  · intro hx
    obtain ⟨i, hi, rfl⟩ := List.getElem_of_mem hx
    exact ⟨i, hi, by rw [getElem!_pos (ascending zs).toArray i (by simpa using hi)]; simp⟩
theorem sortUniq_eq {zs ys : List Int} (hy : ys.Pairwise (· < ·)) (h : ∀ x, x ∈ ys ↔ x ∈ zs) : sortUniq zs = ys := by
  obtain ⟨h1, h2⟩ := sortUniq_spec zs
  exact strict_ext h1 hy fun x => (h2 x).trans (h x).symm
end Go.Proofs.YtigfcbcnfppmcaaGreat.Flat
