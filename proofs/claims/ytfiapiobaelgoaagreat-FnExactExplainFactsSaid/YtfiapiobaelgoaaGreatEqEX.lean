/-
ExplainFacts: the plain law.
-/
import Derived.Test.YtfiapiobaelgoaaGreatEqN
set_option linter.unusedVariables false
set_option linter.unusedSimpArgs false
set_option maxRecDepth 10000
namespace Go.Proofs.YtfiapiobaelgoaaGreat.Flat
theorem withoutIdx_eq (s : List Int) (n : Int) : withoutIdx s n = s.filter fun c => !(c == n) := by
  have h : ∀ (s : List Int) (i : Nat) (b : List Int), loopL (woStep n) id i s b = b ++ s.filter fun c => !(c == n) := by
    intro s
    induction s with
    | nil => intro i b; simp [loopL]
    | cons c r ih =>
      intro i b
      simp -implicitDefEqProofs only [loopL, woStep]
      by_cases h : c = n
      · subst h; simp [ih]
      · simp [ih, h]
  simpa [withoutIdx] using h s 0 []
section
variable (suff : List Int → Bool)
/-- The elements of a row, from its end: each is left out where the rest suffices. -/
def passR : List Int → List Int → List Int
  | [], suf => suf
  | x :: r, suf => if suff (r.reverse ++ suf) = true then passR r suf else passR r (x :: suf)
def pass (kl : List Int) : List Int := passR suff kl.reverse []
theorem passR_sub : ∀ (r suf : List Int), (passR suff r suf).Sublist (r.reverse ++ suf)
  | [], suf => by simp [passR]
  | x :: r, suf => by
    simp -implicitDefEqProofs only [passR, List.reverse_cons, List.append_assoc, List.singleton_append]
    split
    · exact (passR_sub r suf).trans (List.Sublist.append_left (List.sublist_cons_self _ _) _)
    · exact passR_sub r (x :: suf)
theorem pass_sub (kl : List Int) : (pass suff kl).Sublist kl := by
  have := passR_sub suff kl.reverse []
  simpa [pass] using this
theorem pass_same {kl : List Int} (h : ¬ (pass suff kl).length < kl.length) : pass suff kl = kl := (pass_sub suff kl).eq_of_length_le (by omega)
noncomputable def expl (kl : List Int) : List Int := if h : (pass suff kl).length < kl.length then expl (pass suff kl) else kl
termination_by kl.length
theorem expl_step {kl : List Int} (h : (pass suff kl).length < kl.length) : expl suff (pass suff kl) = expl suff kl := by rw [expl.eq_1 suff kl, dif_pos h]
theorem expl_end {kl : List Int} (h : ¬ (pass suff kl).length < kl.length) : expl suff kl = kl := by rw [expl, dif_neg h]
theorem expl_sub (kl : List Int) : (expl suff kl).Sublist kl := by
  induction h : kl.length using Nat.strongRecOn generalizing kl with
  | ind n ih =>
    by_cases hp : (pass suff kl).length < kl.length
    · rw [← expl_step suff hp]
      exact (ih _ (by omega) _ rfl).trans (pass_sub suff kl)
    · rw [expl_end suff hp]
      exact List.Sublist.refl _
/-! the program's round -/
def iStep (kl : List Int) (i : Nat) (x : Int) (suf : List Int) : Sum (List Int) (List Int) := .inr (if suff ((kl.reverse.drop (i + 1)).reverse ++ suf) = true then suf else x :: suf)
theorem iLoop (kl : List Int) : ∀ (r : List Int) (i : Nat) (suf : List Int), kl.reverse.drop i = r → loopL (iStep suff kl) id i r suf = passR suff r suf
  | [], i, suf, _ => rfl
  | x :: r, i, suf, h => by
    have h1 : kl.reverse.drop (i + 1) = r := by rw [← List.drop_drop, h]; rfl
    simp -implicitDefEqProofs only [loopL, iStep, passR, h1]
    rw [iLoop kl r (i + 1) _ h1]
    split <;> rfl
/-! the reference's round -/
def Asc (kl : List Int) : Prop := kl.Pairwise (· < ·)
def below (kl : List Int) (m : Int) : List Int := kl.filter fun c => decide (c < m)
theorem below_succ : ∀ {kl : List Int} (m : Int), Asc kl → below kl (m + 1) = if m ∈ kl then below kl m ++ [m] else below kl m
  | [], m, _ => by simp [below]
  | c :: r, m, h => by
    have hr : Asc r := (List.pairwise_cons.1 h).2
    have hc : ∀ d ∈ r, c < d := (List.pairwise_cons.1 h).1
    have ih := below_succ (kl := r) m hr
    unfold below at ih ⊢
    rcases Int.lt_trichotomy c m with h1 | h1 | h1
    · have e1 : decide (c < m + 1) = true := decide_eq_true (by omega)
      have e2 : decide (c < m) = true := decide_eq_true h1
      have e3 : (m ∈ c :: r) ↔ m ∈ r := by simp; omega
      simp -implicitDefEqProofs only [List.filter_cons, e1, e2, if_true, ih]
      by_cases h2 : m ∈ r
      · rw [if_pos h2, if_pos (e3.2 h2)]; rfl
      · rw [if_neg h2, if_neg (fun h3 => h2 (e3.1 h3))]
    · subst h1
      have e1 : decide (c < c + 1) = true := decide_eq_true (by omega)
      have e2 : decide (c < c) = false := decide_eq_false (by omega)
      have e3 : r.filter (fun d => decide (d < c + 1)) = [] := List.filter_eq_nil_iff.2 fun d hd => by have := hc d hd; simp; omega
      have e4 : r.filter (fun d => decide (d < c)) = [] := List.filter_eq_nil_iff.2 fun d hd => by have := hc d hd; simp; omega
      simp -implicitDefEqProofs only [List.filter_cons, e1, e2, if_true, if_false, e3, e4, List.mem_cons, true_or, Bool.false_eq_true]
      rfl
    · have e1 : decide (c < m + 1) = false := decide_eq_false (by omega)
      have e2 : decide (c < m) = false := decide_eq_false (by omega)
      have e3 : r.filter (fun d => decide (d < m + 1)) = [] := List.filter_eq_nil_iff.2 fun d hd => by have := hc d hd; simp; omega
      have e4 : r.filter (fun d => decide (d < m)) = [] := List.filter_eq_nil_iff.2 fun d hd => by have := hc d hd; simp; omega
      have e5 : m ∉ c :: r := by
        intro h3
        rcases List.mem_cons.1 h3 with h3 | h3
        · omega
        · have := hc m h3; omega
      simp -implicitDefEqProofs only [List.filter_cons, e1, e2, if_false, e3, e4, if_neg e5, Bool.false_eq_true]
def sStep (kl : List Int) (n : Nat) (j : Nat) (_ : Nat) (suf : List Int) : Sum (List Int) (List Int) :=
  .inr (if (((n - 1 - j : Nat) : Int)) ∈ kl then (if suff (below kl ((n - 1 - j : Nat) : Int) ++ suf) = true then suf else ((n - 1 - j : Nat) : Int) :: suf) else suf)
theorem sLoop {kl : List Int} (hk : Asc kl) (h0 : ∀ c ∈ kl, 0 ≤ c) (n : Nat) : ∀ (m j : Nat) (r : List Nat) (suf : List Int), j + m = n → r.length = m → loopL (sStep suff kl n) id j r suf = passR suff (below kl (m : Nat)).reverse suf
  | 0, j, r, suf, hj, hr => by
    have : r = [] := List.length_eq_zero_iff.1 hr
    subst this
    have : below kl ((0 : Nat) : Int) = [] := List.filter_eq_nil_iff.2 fun d hd => by have := h0 d hd; simp; omega
    rw [this]
    rfl
  | m + 1, j, r, suf, hj, hr => by
    obtain ⟨c, r, rfl⟩ : ∃ c r', r = c :: r' := by cases r with | nil => simp at hr | cons c r => exact ⟨c, r, rfl⟩
    have e : n - 1 - j = m := by omega
    have hb := below_succ (m : Int) hk
    rw [show ((m + 1 : Nat) : Int) = (m : Int) + 1 from by omega, hb]
    simp -implicitDefEqProofs only [loopL, sStep, e]
    rw [sLoop hk h0 n m (j + 1) r _ (by omega) (by simpa using hr)]
    by_cases h2 : (m : Int) ∈ kl
    · simp -implicitDefEqProofs only [h2, if_true, List.reverse_append, List.reverse_singleton, List.singleton_append, passR, List.reverse_reverse]
      split <;> rfl
    · simp -implicitDefEqProofs only [h2, if_false]
theorem asc_nodup {kl : List Int} (h : Asc kl) : kl.Nodup := h.imp fun h e => by omega
theorem asc_sub {kl l : List Int} (h : Asc kl) (hs : l.Sublist kl) : Asc l := List.Pairwise.sublist hs h
theorem without_mid {p q : List Int} {x : Int} (h : (p ++ x :: q).Nodup) : withoutIdx (p ++ x :: q) x = p ++ q := by
  rw [withoutIdx_eq, List.filter_append, List.filter_cons]
  have hp : ∀ c ∈ p, c ≠ x := fun c hc e => by
    subst e
    exact (List.nodup_append.1 h).2.2 c hc c (by simp) rfl
  have hq : ∀ c ∈ q, c ≠ x := fun c hc e => by
    subst e
    exact (List.nodup_cons.1 (List.nodup_append.1 h).2.1).1 hc
  have e1 : p.filter (fun c => !(c == x)) = p := List.filter_eq_self.2 fun c hc => by simpa using hp c hc
  have e2 : q.filter (fun c => !(c == x)) = q := List.filter_eq_self.2 fun c hc => by simpa using hq c hc
  rw [e1, e2]
  simp
theorem without_no {p : List Int} {x : Int} (h : x ∉ p) : withoutIdx p x = p := by
  rw [withoutIdx_eq]
  exact List.filter_eq_self.2 fun c hc => by
    have : c ≠ x := fun e => h (e ▸ hc)
    simpa using this
def idxL (n : Nat) : List Int := (List.range n).map fun i => ((i : Nat) : Int)
theorem idxL_succ (n : Nat) : idxL (n + 1) = idxL n ++ [(n : Int)] := by simp [idxL, List.range_succ]
theorem idxL_len (n : Nat) : (idxL n).length = n := by simp [idxL]
theorem idxL_asc (n : Nat) : Asc (idxL n) := by
  unfold Asc idxL
  rw [List.pairwise_map]
  exact List.pairwise_lt_range.imp fun h => by show ((_ : Nat) : Int) < ((_ : Nat) : Int); omega
theorem idxL_in {n : Nat} {c : Int} (h : c ∈ idxL n) : 0 ≤ c ∧ c < (n : Nat) := by
  unfold idxL at h
  obtain ⟨i, hi, rfl⟩ := List.mem_map.1 h
  have := List.mem_range.1 hi
  omega
theorem below_all {kl : List Int} {n : Nat} (h : ∀ c ∈ kl, c < (n : Nat)) : below kl (n : Nat) = kl := List.filter_eq_self.2 fun c hc => decide_eq_true (h c hc)
end
end Go.Proofs.YtfiapiobaelgoaaGreat.Flat
