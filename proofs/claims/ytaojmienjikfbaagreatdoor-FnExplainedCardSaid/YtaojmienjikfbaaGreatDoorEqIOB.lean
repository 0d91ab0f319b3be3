/-
Epochs and leases: looked up, compared, taken.
-/
import Derived.Test.YtaojmienjikfbaaGreatDoorEqE
set_option linter.unusedVariables false
set_option linter.unusedSimpArgs false
set_option maxRecDepth 10000
namespace Go.Proofs.YtaojmienjikfbaaGreatDoor.Flat.Roles
def isR (z : Int) : Bool := decide (0 ≤ z) && decide (z ≤ 5)
def Edge (l : List (Int × Int)) (a b : Nat) : Prop := ∃ x ∈ l, isR x.1 = true ∧ isR x.2 = true ∧ x.1.toNat = a ∧ x.2.toNat = b
inductive Reach (l : List (Int × Int)) : Nat → Nat → Prop
  | refl (a : Nat) : Reach l a a
  | step {a b c : Nat} (h : Reach l a b) (e : Edge l b c) : Reach l a c
theorem Reach.trans {l : List (Int × Int)} {a b c : Nat} (h : Reach l a b) (h' : Reach l b c) : Reach l a c := by
  induction h' with
  | refl => exact h
  | step _ e ih => exact .step ih e
def Has (m : List Bool) (i : Nat) : Prop := m[i]? = some true
def stepS (m : List Bool) (x : Int × Int) : List Bool := if (isR x.1 && isR x.2 && (m[x.1.toNat]?).getD false) = true then m.set x.2.toNat true else m
def pass (l : List (Int × Int)) (m : List Bool) : List Bool := l.foldl stepS m
def passes (l : List (Int × Int)) : Nat → List Bool → List Bool
  | 0, m => m
  | n + 1, m => passes l n (pass l m)
theorem stepS_len {m : List Bool} {x : Int × Int} : (stepS m x).length = m.length := by unfold stepS; split <;> simp
theorem pass_len {l : List (Int × Int)} {m : List Bool} : (pass l m).length = m.length := by
  unfold pass
  induction l generalizing m with
  | nil => rfl
  | cons x l ih => rw [List.foldl_cons, ih, stepS_len]
theorem stepS_mono {m : List Bool} {x : Int × Int} {i : Nat} (h : Has m i) : Has (stepS m x) i := by
  unfold stepS Has at *
  split
  · rw [List.getElem?_set]
    split
    · have := (List.getElem?_eq_some_iff.1 h).1
      rename_i e
      simp [e, this]
    · exact h
  · exact h
theorem pass_mono {l : List (Int × Int)} {m : List Bool} {i : Nat} (h : Has m i) : Has (pass l m) i := by
  unfold pass
  induction l generalizing m with
  | nil => exact h
  | cons x l ih => exact ih (stepS_mono h)
theorem isR_le {z : Int} (h : isR z = true) : z.toNat ≤ 5 := by
  simp [isR] at h
  omega
theorem stepS_edge {m : List Bool} {x : Int × Int} (hl : m.length = 6) (h1 : isR x.1 = true) (h2 : isR x.2 = true) (h : Has m x.1.toNat) : Has (stepS m x) x.2.toNat := by
  have := isR_le h2
  unfold stepS Has at *
  rw [if_pos (by simp [h1, h2, h])]
  rw [List.getElem?_set]
  simp
  omega
theorem pass_edge {l : List (Int × Int)} {m : List Bool} {a b : Nat} (hl : m.length = 6) (h : Has m a) (e : Edge l a b) : Has (pass l m) b := by
  unfold pass
  induction l generalizing m with
  | nil => obtain ⟨x, hx, _⟩ := e; simp at hx
  | cons y l ih =>
    obtain ⟨x, hx, h1, h2, rfl, rfl⟩ := e
    rw [List.foldl_cons]
    rcases List.mem_cons.1 hx with rfl | hx
    · exact pass_mono (l := l) (stepS_edge hl h1 h2 h)
    · exact ih (by rw [stepS_len, hl]) (stepS_mono h) ⟨x, hx, h1, h2, rfl, rfl⟩
theorem stepS_sound {l : List (Int × Int)} {r : Nat} {m : List Bool} {x : Int × Int} (hx : x ∈ l) (h : ∀ i, Has m i → Reach l r i) : ∀ i, Has (stepS m x) i → Reach l r i := by
  intro i hi
  unfold stepS at hi
  split at hi
  · rename_i hc
    simp -implicitDefEqProofs only [Bool.and_eq_true] at hc
    obtain ⟨⟨h1, h2⟩, h3⟩ := hc
    unfold Has at hi
    rw [List.getElem?_set] at hi
    split at hi
    · rename_i e
      subst e
      refine .step (h _ ?_) ⟨x, hx, h1, h2, rfl, rfl⟩
      unfold Has
      cases hq : m[x.1.toNat]? with
      | none => rw [hq] at h3; simp at h3
      | some b => rw [hq] at h3; simp at h3; rw [h3]
    · exact h i hi
  · exact h i hi
theorem pass_sound {l : List (Int × Int)} {r : Nat} {m : List Bool} (h : ∀ i, Has m i → Reach l r i) : ∀ i, Has (pass l m) i → Reach l r i := by
  have key : ∀ (s : List (Int × Int)) (m : List Bool), (∀ x ∈ s, x ∈ l) → (∀ i, Has m i → Reach l r i) → ∀ i, Has (s.foldl stepS m) i → Reach l r i := by
    intro s
    induction s with
    | nil => intro m _ h; exact h
    | cons x s ih => intro m hs h; exact ih _ (fun y hy => hs y (by simp [hy])) (stepS_sound (hs x (by simp)) h)
  exact key l m (fun _ h => h) h
def cnt (m : List Bool) : Nat := m.count true
theorem stepS_cnt (m : List Bool) (x : Int × Int) : stepS m x = m ∨ cnt m < cnt (stepS m x) := by
  unfold stepS
  split
  · by_cases h : m[x.2.toNat]? = some false
    · right
      obtain ⟨h1, h2⟩ := List.getElem?_eq_some_iff.1 h
      unfold cnt
      rw [List.count_set h1, h2]
      simp
    · left
      apply List.ext_getElem?
      intro i
      rw [List.getElem?_set]
      split
      · rename_i e
        subst e
        split
        · rename_i hlt
          cases hq : m[x.2.toNat]? with
          | none => simp at hq; omega
          | some b => cases b <;> simp_all
        · rename_i hlt
          rw [List.getElem?_eq_none (by omega)]
      · rfl
  · exact .inl rfl
theorem pass_cnt (l : List (Int × Int)) (m : List Bool) : pass l m = m ∨ cnt m < cnt (pass l m) := by
  unfold pass
  induction l generalizing m with
  | nil => exact .inl rfl
  | cons x l ih =>
    rw [List.foldl_cons]
    rcases stepS_cnt m x with h | h
    · rw [h]; exact ih m
    · rcases ih (stepS m x) with h2 | h2
      · right; rw [h2]; exact h
      · right; omega
theorem passes_fix {l : List (Int × Int)} {m : List Bool} (h : pass l m = m) (n : Nat) : passes l n m = m := by
  induction n with
  | zero => rfl
  | succ n ih => rw [passes, h, ih]
theorem passes_cnt (l : List (Int × Int)) (n : Nat) (m : List Bool) : pass l (passes l n m) = passes l n m ∨ cnt m + n ≤ cnt (passes l n m) := by
  induction n generalizing m with
  | zero => exact .inr (Nat.le_refl _)
  | succ n ih =>
    rw [passes]
    rcases pass_cnt l m with h | h
    · left; rw [h, passes_fix h, h]
    · rcases ih (pass l m) with h2 | h2
      · exact .inl h2
      · right; omega
theorem passes_len {l : List (Int × Int)} {n : Nat} {m : List Bool} : (passes l n m).length = m.length := by
  induction n generalizing m with
  | zero => rfl
  | succ n ih => rw [passes, ih, pass_len]
theorem passes_mono {l : List (Int × Int)} {n : Nat} {m : List Bool} {i : Nat} (h : Has m i) : Has (passes l n m) i := by
  induction n generalizing m with
  | zero => exact h
  | succ n ih => exact ih (pass_mono h)
theorem passes_sound {l : List (Int × Int)} {n r : Nat} {m : List Bool} (h : ∀ i, Has m i → Reach l r i) : ∀ i, Has (passes l n m) i → Reach l r i := by
  induction n generalizing m with
  | zero => exact h
  | succ n ih => exact ih (pass_sound h)
def marks (l : List (Int × Int)) (r : Nat) : List Bool := passes l 6 ((List.replicate 6 false).set r true)
theorem marks_iff {l : List (Int × Int)} {r : Nat} (hr : r ≤ 5) (i : Nat) : Has (marks l r) i ↔ Reach l r i := by
  have h0 : Has ((List.replicate 6 false).set r true) r := by unfold Has; rw [List.getElem?_set]; simp; omega
  have hl : (marks l r).length = 6 := by unfold marks; rw [passes_len]; simp
  constructor
  · refine passes_sound (fun j hj => ?_) i
    unfold Has at hj
    rw [List.getElem?_set] at hj
    split at hj
    · rename_i e; subst e; exact .refl _
    · rw [List.getElem?_replicate] at hj
      split at hj <;> simp at hj
  · intro h
    have hfix : pass l (marks l r) = marks l r := by
      rcases passes_cnt l 6 ((List.replicate 6 false).set r true) with h1 | h1
      · exact h1
      · exfalso
        have h2 : cnt ((List.replicate 6 false).set r true) = 1 := by
          unfold cnt
          rw [List.count_set (by simp; omega)]
          simp [List.count_replicate]
        have h3 : cnt (passes l 6 ((List.replicate 6 false).set r true)) ≤ 6 := by
          have := List.count_le_length (a := true) (l := passes l 6 ((List.replicate 6 false).set r true))
          rw [passes_len] at this
          simpa [cnt] using this
        omega
    induction h with
    | refl => exact passes_mono h0
    | step _ e ih => rw [← hfix]; exact pass_edge hl ih e
def stepB (at' : Int) (p : List Bool × List Int) (x : Int × Int) : List Bool × List Int :=
  if (x.1 == at' && (isR x.2 && !((p.1[x.2.toNat]?).getD false))) = true then (p.1.set x.2.toNat true, p.2 ++ [x.2]) else p
def roundB (l : List (Int × Int)) (at' : Int) (p : List Bool × List Int) : List Bool × List Int := l.foldl (stepB at') p
def belowN (l : List (Int × Int)) : Nat → List Bool → List Int → List Bool
  | 0, m, _ => m
  | _, m, [] => m
  | n + 1, m, a :: t => belowN l n (roundB l a (m, t)).1 (roundB l a (m, t)).2
def below (l : List (Int × Int)) (r : Int) : List Bool := belowN l 7 (List.replicate 6 false) [r]
def Reach1 (l : List (Int × Int)) (a c : Nat) : Prop := ∃ b, Reach l a b ∧ Edge l b c
theorem stepB_len {a : Int} {p : List Bool × List Int} {x : Int × Int} : (stepB a p x).1.length = p.1.length := by unfold stepB; split <;> simp
theorem roundB_len {l : List (Int × Int)} {a : Int} {p : List Bool × List Int} : (roundB l a p).1.length = p.1.length := by
  unfold roundB
  induction l generalizing p with
  | nil => rfl
  | cons x l ih => rw [List.foldl_cons, ih, stepB_len]
theorem stepB_mono {a : Int} {p : List Bool × List Int} {x : Int × Int} {i : Nat} (h : Has p.1 i) : Has (stepB a p x).1 i := by
  unfold stepB Has at *
  split
  · simp only
    rw [List.getElem?_set]
    split
    · have := (List.getElem?_eq_some_iff.1 h).1
      rename_i e
      simp [e, this]
    · exact h
  · exact h
theorem roundB_mono {l : List (Int × Int)} {a : Int} {p : List Bool × List Int} {i : Nat} (h : Has p.1 i) : Has (roundB l a p).1 i := by
  unfold roundB
  induction l generalizing p with
  | nil => exact h
  | cons x l ih => exact ih (stepB_mono h)
theorem stepB_todo {a : Int} {p : List Bool × List Int} {x : Int × Int} {z : Int} (h : z ∈ p.2) : z ∈ (stepB a p x).2 := by unfold stepB; split <;> simp [h]
theorem roundB_todo {l : List (Int × Int)} {a : Int} {p : List Bool × List Int} {z : Int} (h : z ∈ p.2) : z ∈ (roundB l a p).2 := by
  unfold roundB
  induction l generalizing p with
  | nil => exact h
  | cons x l ih => exact ih (stepB_todo h)
theorem stepB_new {a : Int} {p : List Bool × List Int} {x : Int × Int} {i : Nat} (h : Has (stepB a p x).1 i) : Has p.1 i ∨ ∃ z ∈ (stepB a p x).2, isR z = true ∧ z.toNat = i := by
  unfold stepB Has at *
  split at h
  · rename_i hc
    simp only at h
    rw [List.getElem?_set] at h
    split at h
    · rename_i e
      right
      rw [if_pos hc]
      simp -implicitDefEqProofs only [Bool.and_eq_true] at hc
      exact ⟨x.2, by simp, hc.2.1, e⟩
    · exact .inl h
  · exact .inl h
theorem roundB_new {l : List (Int × Int)} {a : Int} {p : List Bool × List Int} {i : Nat} (h : Has (roundB l a p).1 i) : Has p.1 i ∨ ∃ z ∈ (roundB l a p).2, isR z = true ∧ z.toNat = i := by
  unfold roundB at *
  induction l generalizing p with
  | nil => exact .inl h
  | cons x l ih =>
    rcases ih h with h1 | h1
    · rcases stepB_new h1 with h2 | ⟨z, hz, h2⟩
      · exact .inl h2
      · exact .inr ⟨z, roundB_todo (l := l) hz, h2⟩
    · exact .inr h1
theorem getD_false {m : List Bool} {i : Nat} (hl : i < m.length) : (m[i]?).getD false = true ∨ m[i]? = some false := by
  rw [List.getElem?_eq_getElem hl]
  cases m[i] <;> simp
theorem stepB_cnt {a : Int} {p : List Bool × List Int} {x : Int × Int} (hl : p.1.length = 6) : cnt p.1 + (stepB a p x).2.length = cnt (stepB a p x).1 + p.2.length := by
  unfold stepB
  split
  · rename_i hc
    simp -implicitDefEqProofs only [Bool.and_eq_true, Bool.not_eq_true'] at hc
    have h5 := isR_le hc.2.1
    have h6 : x.2.toNat < p.1.length := by omega
    rcases getD_false h6 with h | h
    · rw [hc.2.2] at h; simp at h
    · have h7 := (List.getElem?_eq_some_iff.1 h).2
      unfold cnt
      rw [List.count_set h6, h7]
      simp
      omega
  · rfl
theorem roundB_cnt {l : List (Int × Int)} {a : Int} {p : List Bool × List Int} (hl : p.1.length = 6) : cnt p.1 + (roundB l a p).2.length = cnt (roundB l a p).1 + p.2.length := by
  unfold roundB
  induction l generalizing p with
  | nil => rfl
  | cons x l ih =>
    rw [List.foldl_cons]
    have h1 := stepB_cnt (a := a) (x := x) hl
    have h2 := ih (p := stepB a p x) (by rw [stepB_len, hl])
    omega
theorem stepB_edge {a : Int} {p : List Bool × List Int} {x : Int × Int} (hl : p.1.length = 6) (h1 : x.1 = a) (h2 : isR x.2 = true) : Has (stepB a p x).1 x.2.toNat := by
  have h5 := isR_le h2
  have h6 : x.2.toNat < p.1.length := by omega
  unfold stepB Has
  rcases getD_false h6 with h | h
  · rw [if_neg (by simp [h])]
    cases hq : p.1[x.2.toNat]? with
    | none => rw [hq] at h; simp at h
    | some b => rw [hq] at h; simp at h; rw [h]
  · rw [if_pos (by simp [h, h1, h2])]
    simp only
    rw [List.getElem?_set]
    simp [h6]
theorem toNat_inj {x y : Int} (hx : isR x = true) (hy : isR y = true) (h : x.toNat = y.toNat) : x = y := by
  simp [isR] at hx hy
  omega
theorem roundB_edge {l : List (Int × Int)} {a : Int} {p : List Bool × List Int} {b : Nat} (hl : p.1.length = 6) (ha : isR a = true) (e : Edge l a.toNat b) : Has (roundB l a p).1 b := by
  unfold roundB
  induction l generalizing p with
  | nil => obtain ⟨x, hx, _⟩ := e; simp at hx
  | cons y l ih =>
    obtain ⟨x, hx, h1, h2, h3, rfl⟩ := e
    rw [List.foldl_cons]
    rcases List.mem_cons.1 hx with rfl | hx
    · exact roundB_mono (l := l) (stepB_edge hl (toNat_inj h1 ha h3) h2)
    · exact ih (by rw [stepB_len, hl]) ⟨x, hx, h1, h2, h3, rfl⟩
def Sound (l : List (Int × Int)) (r : Nat) (p : List Bool × List Int) : Prop := (∀ i, Has p.1 i → Reach1 l r i) ∧ ∀ z ∈ p.2, isR z = true ∧ Reach l r z.toNat
theorem stepB_sound {l : List (Int × Int)} {r : Nat} {a : Int} {p : List Bool × List Int} {x : Int × Int} (hx : x ∈ l) (ha : isR a = true) (hr : Reach l r a.toNat) (h : Sound l r p) : Sound l r (stepB a p x) := by
  unfold stepB
  split
  · rename_i hc
    simp -implicitDefEqProofs only [Bool.and_eq_true, beq_iff_eq] at hc
    have e : Edge l a.toNat x.2.toNat := ⟨x, hx, by rw [hc.1]; exact ha, hc.2.1, by rw [hc.1], rfl⟩
    refine ⟨fun i hi => ?_, fun z hz => ?_⟩
    · unfold Has at hi
      simp only at hi
      rw [List.getElem?_set] at hi
      split at hi
      · rename_i e2; subst e2; exact ⟨_, hr, e⟩
      · exact h.1 i hi
    · rcases List.mem_append.1 hz with hz | hz
      · exact h.2 z hz
      · obtain rfl := List.mem_singleton.1 hz
        exact ⟨hc.2.1, .step hr e⟩
  · exact h
theorem roundB_sound {l : List (Int × Int)} {r : Nat} {a : Int} {p : List Bool × List Int} (ha : isR a = true) (hr : Reach l r a.toNat) (h : Sound l r p) : Sound l r (roundB l a p) := by
  have key : ∀ (s : List (Int × Int)) (p : List Bool × List Int), (∀ x ∈ s, x ∈ l) → Sound l r p → Sound l r (s.foldl (stepB a) p) := by
    intro s
    induction s with
    | nil => intro p _ h; exact h
    | cons x s ih => intro p hs h; exact ih _ (fun y hy => hs y (by simp [hy])) (stepB_sound (hs x (by simp)) ha hr h)
  exact key l p (fun _ h => h) h
def Full (l : List (Int × Int)) (r : Nat) (p : List Bool × List Int) : Prop := ∀ i, (Has p.1 i ∨ i = r) → (∃ z ∈ p.2, isR z = true ∧ z.toNat = i) ∨ ∀ b, Edge l i b → Has p.1 b
theorem round_full {l : List (Int × Int)} {r : Nat} {a : Int} {m : List Bool} {t : List Int} (hl : m.length = 6) (ha : isR a = true) (h : Full l r (m, a :: t)) : Full l r (roundB l a (m, t)) := by
  intro i hi
  have old : (Has m i ∨ i = r) → (∃ z ∈ (roundB l a (m, t)).2, isR z = true ∧ z.toNat = i) ∨ ∀ b, Edge l i b → Has (roundB l a (m, t)).1 b := by
    intro hi
    rcases h i hi with ⟨z, hz, h1, h2⟩ | h1
    · rcases List.mem_cons.1 hz with rfl | hz
      · right
        intro b e
        exact roundB_edge (p := (m, t)) hl h1 (by rw [h2]; exact e)
      · exact .inl ⟨z, roundB_todo (p := (m, t)) hz, h1, h2⟩
    · exact .inr fun b e => roundB_mono (p := (m, t)) (h1 b e)
  rcases hi with hi | hi
  · rcases roundB_new hi with h1 | h1
    · exact old (.inl h1)
    · exact .inl h1
  · exact old (.inr hi)
def left (p : List Bool × List Int) : Nat := 6 - cnt p.1 + p.2.length
theorem cnt_le {m : List Bool} (hl : m.length = 6) : cnt m ≤ 6 := by
  have := List.count_le_length (a := true) (l := m)
  rw [hl] at this
  exact this
theorem round_left {l : List (Int × Int)} {a : Int} {m : List Bool} {t : List Int} (hl : m.length = 6) : left (roundB l a (m, t)) + 1 = left (m, a :: t) := by
  have h1 := roundB_cnt (l := l) (a := a) (p := (m, t)) hl
  have h2 := cnt_le hl
  have h3 := cnt_le (m := (roundB l a (m, t)).1) (by rw [roundB_len]; exact hl)
  simp -implicitDefEqProofs only [left, List.length_cons] at *
  omega
def ends (l : List (Int × Int)) (p : List Bool × List Int) : List Bool := belowN l (left p) p.1 p.2
theorem ends_nil {l : List (Int × Int)} {m : List Bool} : ends l (m, []) = m := by
  unfold ends
  cases left (m, []) <;> rfl
theorem ends_cons {l : List (Int × Int)} {a : Int} {m : List Bool} {t : List Int} (hl : m.length = 6) : ends l (roundB l a (m, t)) = ends l (m, a :: t) := by
  have h := round_left (l := l) (a := a) (t := t) hl
  unfold ends
  rw [← h]
  rfl
theorem ends_iff {l : List (Int × Int)} {r : Nat} : ∀ (n : Nat) (p : List Bool × List Int), left p = n → p.1.length = 6 → Sound l r p → Full l r p → (ends l p).length = 6 ∧ ∀ i, Has (ends l p) i ↔ Reach1 l r i := by
  intro n
  induction n with
  | zero =>
    rintro ⟨m, t⟩ hn hl hs hf
    cases t with
    | cons a t => simp [left] at hn
    | nil =>
      rw [ends_nil]
      refine ⟨hl, fun i => ⟨hs.1 i, ?_⟩⟩
      rintro ⟨b, hb, e⟩
      have hall : ∀ b, Reach l r b → Has m b ∨ b = r := by
        intro b hb
        induction hb with
        | refl => exact .inr rfl
        | step _ e ih =>
          rcases hf _ ih with ⟨z, hz, _⟩ | h
          · simp at hz
          · exact .inl (h _ e)
      rcases hf b (hall b hb) with ⟨z, hz, _⟩ | h
      · simp at hz
      · exact h i e
  | succ n ih =>
    rintro ⟨m, t⟩ hn hl hs hf
    cases t with
    | nil =>
      rw [ends_nil]
      refine ⟨hl, fun i => ⟨hs.1 i, ?_⟩⟩
      rintro ⟨b, hb, e⟩
      have hall : ∀ b, Reach l r b → Has m b ∨ b = r := by
        intro b hb
        induction hb with
        | refl => exact .inr rfl
        | step _ e ih =>
          rcases hf _ ih with ⟨z, hz, _⟩ | h
          · simp at hz
          · exact .inl (h _ e)
      rcases hf b (hall b hb) with ⟨z, hz, _⟩ | h
      · simp at hz
      · exact h i e
    | cons a t =>
      obtain ⟨h1, h2⟩ := hs.2 a (by simp)
      have h3 := round_left (l := l) (a := a) (t := t) hl
      rw [← ends_cons hl]
      exact ih _ (by
        have h4 : left (roundB l a (m, t)) + 1 = n + 1 := h3.trans hn
        exact Nat.succ.inj h4) (by rw [roundB_len]; exact hl) (roundB_sound h1 h2 ⟨hs.1, fun z hz => hs.2 z (by simp [hz])⟩) (round_full hl h1 hf)
theorem start_iff {l : List (Int × Int)} {r : Int} (hr : isR r = true) : (ends l (List.replicate 6 false, [r])).length = 6 ∧ ∀ i, Has (ends l (List.replicate 6 false, [r])) i ↔ Reach1 l r.toNat i := by
  have hno : ∀ i, ¬ Has (List.replicate 6 false) i := by
    intro i h
    unfold Has at h
    rw [List.getElem?_replicate] at h
    split at h <;> simp at h
  refine ends_iff _ _ rfl (by simp) ⟨fun i hi => absurd hi (hno i), fun z hz => ?_⟩ (fun i hi => ?_)
  · obtain rfl := List.mem_singleton.1 hz
    exact ⟨hr, .refl _⟩
  · rcases hi with hi | rfl
    · exact absurd hi (hno i)
    · exact .inl ⟨r, by simp, hr, rfl⟩
theorem reach_iff {l : List (Int × Int)} {r i : Nat} : Reach l r i ↔ i = r ∨ Reach1 l r i := by
  constructor
  · intro h
    cases h with
    | refl => exact .inl rfl
    | step h e => exact .inr ⟨_, h, e⟩
  · rintro (rfl | ⟨b, h, e⟩)
    · exact .refl _
    · exact .step h e
end Go.Proofs.YtaojmienjikfbaaGreatDoor.Flat.Roles
namespace Go.Proofs.YtaojmienjikfbaaGreatDoor.Flat
theorem r_impl_isRole (k : Nat) (hk : 281474976710656 + 2 ≤ k) (z : Int) : run E noExt k 154 [.int .i64 z] [] = some (.bool (inR z 0 5), []) := by
  obtain ⟨k, rfl⟩ : ∃ j, k = j + 1 := ⟨k - 1, by omega⟩
  rw [run_succ rfl rfl, body_eq (nt := 5) (fn := Go.Proofs.Tryz.f154) (by kernel_rfl) rfl rfl rfl rfl rfl rfl rfl rfl]
  have c_impl_InRange := r_impl_InRange k (by omega)
  simp -implicitDefEqProofs only [W1, ↓D1, ↓DC, QX, Go.Proofs.Tryz.f154, c_impl_InRange, Int.reduceToNat, id_eq, Int.reduceBEq, Int.reduceLE, Int.reduceLT, Nat.reduceAdd, Nat.reduceEqDiff, Nat.reduceLT, Nat.reduceLeDiff, Nat.reduceMul, Nat.reduceSub, reduceIte]
  repeat' (split <;> (rename_i h; (try simp -implicitDefEqProofs only [Bool.not_eq_true', Bool.not_eq_false', decide_eq_true_eq, decide_eq_false_iff_not] at h); (try simp -implicitDefEqProofs only [W1, ↓D1, ↓DC, QX, *, c_impl_InRange, Int.reduceToNat, id_eq, Int.reduceBEq, Int.reduceLE, Int.reduceLT, Nat.reduceAdd, Nat.reduceEqDiff, Nat.reduceLT, Nat.reduceLeDiff, Nat.reduceMul, Nat.reduceSub, reduceIte])))
theorem rowss_bools (m : List Bool) : AV.rowss (m.map AV.bool) = [] := by
  induction m with
  | nil => rfl
  | cons b m ih => simpa [AV.rowss, AV.rows] using ih
theorem boxess_bools (m : List Bool) : AV.boxess (m.map AV.bool) = [] := by
  induction m with
  | nil => rfl
  | cons b m ih => simpa [AV.boxess, AV.boxes] using ih
theorem mapOs_bools {f : Nat → Bool → Nat → Nat → List AV → AV} {g : Nat → Nat → AV} {h : Bool → Nat → Bool → Nat → Nat → List AV → Nat → Nat → AV} {z : Unit → AV} (m : List Bool) : AV.mapOs f g h z (m.map AV.bool) = m.map AV.bool := by
  induction m with
  | nil => rfl
  | cons b m ih => simp [AV.mapOs, AV.mapO, ih]
theorem maps_bools {f : Nat → Bool → Nat → Nat → List AV → AV} {g : Nat → Nat → AV} {h : Bool → Nat → Bool → Nat → Nat → List AV → Nat → Nat → AV} {z : Unit → AV} (m : List Bool) : List.map (fun v => AV.mapO f g h z v) (m.map AV.bool) = m.map AV.bool := by
  have := mapOs_bools (f := f) (g := g) (h := h) (z := z) m
  rw [AV.mapOs_eq] at this
  exact this
theorem ren_bools {g b : List Nat} (m : List Bool) : List.map (renameB g b) (m.map AV.bool) = m.map AV.bool := maps_bools m
theorem allRows_bools {p : Nat → Bool} (m : List Bool) : List.all (m.map AV.bool) (fun v => List.all v.rows p) = true := by
  induction m with
  | nil => rfl
  | cons b m ih => simp [AV.rows]
theorem plain_bools (m : List Bool) : (m.map AV.bool).all plainC = true := by
  induction m with
  | nil => rfl
  | cons b m ih => simp [plainC]
theorem cells_bools (m : List Bool) : (m.map AV.bool).all AV.isCell = true := by
  induction m with
  | nil => rfl
  | cons b m ih => simp [AV.isCell]
theorem head_bools {m : List Bool} {i : Nat} (h : i < m.length) : (List.drop i (m.map AV.bool)).head? = some (.bool ((m[i]?).getD false)) := by
  rw [List.head?_drop, List.getElem?_map, List.getElem?_eq_getElem h]
  rfl
theorem store_bools {m : List Bool} {i : Nat} {b : Bool} (h : i < m.length) : List.take i (m.map AV.bool) ++ [.bool b] ++ List.drop (i + 1) (m.map AV.bool) = (m.set i b).map AV.bool := by
  rw [← List.map_take, ← List.map_drop, List.set_eq_take_append_cons_drop, if_pos h]
  simp
def pairOf (x : Includes) : Int × Int := (x.greater, x.lesser)
def belowStep (a : Int) (_ : Nat) (x : Includes) (p : List Bool × List Int) : Sum (List Bool × List Int) (List Bool × List Int) := .inr (Roles.stepB a p (pairOf x))
theorem belowLoop (a : Int) : ∀ (s : List Includes) (i : Nat) (p : List Bool × List Int), loopL (belowStep a) id i s p = Roles.roundB (s.map pairOf) a p
  | [], i, p => rfl
  | x :: r, i, p => by simp -implicitDefEqProofs only [loopL, belowStep]; rw [belowLoop a r]; rfl
theorem r_impl_below {fl : Bool} (k : Nat) (hk : 281474976710656 + 3 ≤ k) (l : List Includes) (hl : l.length ≤ 140737488355328) (r : Int) :
    run E noExt k 155 [.sl fl (l.map (Includes.enc fl)), .int .i64 r] [] = some (.agg ((Roles.ends (l.map pairOf) (List.replicate 6 false, [r])).map AV.bool), []) := by
  have c0 := r_impl_isRole (k - 1) (by omega)
  obtain ⟨k, rfl⟩ : ∃ j, k = j + 1 := ⟨k - 1, by omega⟩
  rw [run_succ rfl rfl, body_eq (nt := 53) (fn := Go.Proofs.Tryz.f155) (by kernel_rfl) rfl rfl rfl rfl rfl rfl rfl rfl]
  simp -implicitDefEqProofs only [Nat.add_sub_cancel] at c0
  simp -implicitDefEqProofs only [W3, ↓D3, ↓DA, ↓DP, ↓DC, Go.Proofs.Tryz.f155, Int.reduceToNat, id_eq, Int.reduceBEq, Int.reduceLE, Int.reduceLT, SH, Nat.reduceAdd, Nat.reduceEqDiff, Nat.reduceLT, Nat.reduceLeDiff, Nat.reduceMul, Nat.reduceSub, reduceIte]
  rw [ev_loop]
  refine Eq.trans (loop_while (Q := fun (g : List Bool) x => thenEnd E.P [] _ 0 (thenEv E _ _ _ _ _ (outOf 0 x)) = some (.agg (g.map AV.bool), []))
    (fun p => match p.2 with | [] => none | a :: t => some (Roles.roundB (l.map pairOf) a (p.1, t))) (Roles.ends (l.map pairOf))
    (fun p => { sl := [(0, .sl fl (l.map (Includes.enc fl))), (4, .ptr 0 0), (5, .ptr 1 0), (6, .own 0 false 3 1 (p.2.map (AV.int .i64)))], bx := [(0, [.bool false, .bool false, .bool false, .bool false, .bool false, .bool false]), (1, p.1.map AV.bool)], nx := 3, nt := 53 })
    (fun p => p.1.length = 6 ∧ Roles.left p ≤ 7) Roles.left (List.replicate 6 false, [r]) ?_ ?_ ?_ ⟨rfl, ?_⟩ ?_) ?_
  · rintro ⟨m, t⟩ ⟨h1, h2⟩
    simp only at h1
    have ht : List.take 6 (List.map AV.bool m) = List.map AV.bool m := List.take_of_length_le (by simp [h1])
    cases t with
    | nil =>
      simp -implicitDefEqProofs only [W2, ↓D2, ↓DC, QX, h1, ht, cells_bools, Nat.min_self, Roles.ends_nil, plain_bools, leaf_some, isNormal, Int.reduceToNat, id_eq, Int.reduceBEq, Int.reduceLE, Int.reduceLT, Nat.reduceAdd, Nat.reduceEqDiff, Nat.reduceLT, Nat.reduceLeDiff, Nat.reduceMul, Nat.reduceSub, reduceIte]
      repeat' (split <;> (rename_i h; (try simp -implicitDefEqProofs only [Bool.not_eq_true', Bool.not_eq_false', decide_eq_true_eq, decide_eq_false_iff_not] at h); (try simp -implicitDefEqProofs only [W2, ↓D2, ↓DC, QX, *, h1, ht, cells_bools, Nat.min_self, Roles.ends_nil, plain_bools, leaf_some, isNormal, Int.reduceToNat, id_eq, Int.reduceBEq, Int.reduceLE, Int.reduceLT, Nat.reduceAdd, Nat.reduceEqDiff, Nat.reduceLT, Nat.reduceLeDiff, Nat.reduceMul, Nat.reduceSub, reduceIte])))
    | cons a t =>
      have hp : ((0 : Int) < ((t.length + 1 : Nat) : Int)) = True := by simp
      have hq : ((1 : Int) ≤ ((t.length + 1 : Nat) : Int)) = True := by simp; omega
      simp -implicitDefEqProofs only [W4, ↓D4, ↓DA, ↓DP, ↓DC, QX, h1, hp, hq, Int.reduceToNat, SH, dedup, nodupB, idx, AV.rows, AV.rowss, AV.mapO, AV.mapOs, leaf_some, isNormal, id_eq, Int.reduceBEq, Int.reduceLE, Int.reduceLT, Nat.reduceAdd, Nat.reduceEqDiff, Nat.reduceLT, Nat.reduceLeDiff, Nat.reduceMul, Nat.reduceSub, reduceIte]
      repeat' (split <;> (rename_i h; (try simp -implicitDefEqProofs only [Bool.not_eq_true', Bool.not_eq_false', decide_eq_true_eq, decide_eq_false_iff_not] at h); (try simp -implicitDefEqProofs only [W4, ↓D4, ↓DA, ↓DP, ↓DC, QX, *, h1, hp, hq, Int.reduceToNat, SH, dedup, nodupB, idx, AV.rows, AV.rowss, AV.mapO, AV.mapOs, leaf_some, isNormal, id_eq, Int.reduceBEq, Int.reduceLE, Int.reduceLT, Nat.reduceAdd, Nat.reduceEqDiff, Nat.reduceLT, Nat.reduceLeDiff, Nat.reduceMul, Nat.reduceSub, reduceIte])))
      rw [ev_loop]
      refine loop_list (Q := fun g z => g = Roles.roundB (l.map pairOf) a (m, t) → Leaf (outOf 1 (outOf 2 z)) _) l (belowStep a) id
        (fun i p => { sl := [(0, .sl fl (l.map (Includes.enc fl))), (4, .ptr 0 0), (5, .ptr 1 0), (6, .own 0 false 3 1 (p.2.map (AV.int .i64))), (7, .int .i64 a), (21, .sl fl (l.map (Includes.enc fl))), (22, .int .i64 (l.length : Nat)), (23, .int .i64 (i : Nat))], bx := [(0, [.bool false, .bool false, .bool false, .bool false, .bool false, .bool false]), (1, p.1.map AV.bool)], nx := 3, nt := 53 })
        (fun _ p => p.1.length = 6 ∧ p.2.length ≤ Roles.cnt p.1 + 7) (m, t) ?_ ?_ (by omega) ⟨h1, ?_⟩ ?_ (belowLoop a l 0 (m, t))
      · rintro ⟨m', t'⟩ ⟨h3, h4⟩
        simp only at h3 h4
        simp -implicitDefEqProofs only [W2, ↓D2, ↓DC, QX, h3, rowss_bools, boxess_bools, allRows_bools, maps_bools, mapOs_bools, ren_bools, id_eq, keep_155_3, leaf_some, isNormal, Int.reduceToNat, Int.reduceBEq, Int.reduceLE, Int.reduceLT, Nat.reduceAdd, Nat.reduceEqDiff, Nat.reduceLT, Nat.reduceLeDiff, Nat.reduceMul, Nat.reduceSub, reduceIte]
        repeat' (split <;> (rename_i h; (try simp -implicitDefEqProofs only [Bool.not_eq_true', Bool.not_eq_false', decide_eq_true_eq, decide_eq_false_iff_not] at h); (try simp -implicitDefEqProofs only [W2, ↓D2, ↓DC, QX, *, h3, rowss_bools, boxess_bools, allRows_bools, maps_bools, mapOs_bools, ren_bools, id_eq, keep_155_3, leaf_some, isNormal, Int.reduceToNat, Int.reduceBEq, Int.reduceLE, Int.reduceLT, Nat.reduceAdd, Nat.reduceEqDiff, Nat.reduceLT, Nat.reduceLeDiff, Nat.reduceMul, Nat.reduceSub, reduceIte])))
        intro he
        rw [← he]
      · rintro pre x r' ⟨m', t'⟩ hs' ⟨h3, h4⟩
        simp only at h3 h4
        have hx := (at_row hs' hl).1; have hc := (at_row hs' hl).2.1; have hlt := (at_row hs' hl).2.2.1; have hw1 := (at_row hs' hl).2.2.2.1; have hl9 := (at_row hs' hl).2.2.2.2
        clear hs'
        have hc1 := Roles.cnt_le h3
        by_cases e1 : (x.greater == a) = true
        · by_cases e2 : inR x.lesser 0 5 = true
          · have e3 : 0 ≤ x.lesser ∧ x.lesser < 6 := by simp [inR] at e2; omega
            have e4 : x.lesser.toNat < m'.length := by omega
            have e5 := head_bools e4
            have e6 := store_bools (b := true) e4
            have e7 : x.lesser.toNat ≤ 5 := by omega
            have n6 : ((6 : Nat) : Int) = 6 := rfl
            have e8 : Roles.isR x.lesser = true := e2
            generalize hv : (m'[x.lesser.toNat]?).getD false = v at e5
            cases v with
            | false =>
              have hst : Roles.stepB a (m', t') (pairOf x) = (m'.set x.lesser.toNat true, t' ++ [x.lesser]) := by
                simp -implicitDefEqProofs only [Roles.stepB, pairOf, e1, e8, hv, Bool.not_false, Bool.and_self, if_true]
              have hpl : plains [AV.int IntKind.i64 x.lesser] = true := rfl
              have hA : (t'.length + 1) * 8 ≤ 140737488355328 := by omega
              have hB : t'.length ≤ 9223372036854775806 := by omega
              have hn := Roles.stepB_cnt (a := a) (p := (m', t')) (x := pairOf x) h3
              rw [hst] at hn
              have hn2 : (t' ++ [x.lesser]).length ≤ Roles.cnt (m'.set x.lesser.toNat true) + 7 := by simp only at hn; omega
              simp -implicitDefEqProofs only [W3, ↓D3, ↓DA, ↓DP, ↓DC, QX, enc_Includes, hx, hlt, hw1, c0, e1, e2, e3, e5, e6, e7, n6, h3, hst, hpl, hA, hB, hn2, belowStep, List.map_append, List.length_set, Nat.mul_one, rowss_bools, boxess_bools, allRows_bools, maps_bools, mapOs_bools, ren_bools, SH, keep_155_7, leaf_some, isNormal, Int.reduceToNat, id_eq, Int.reduceBEq, Int.reduceLE, Int.reduceLT, Nat.reduceAdd, Nat.reduceEqDiff, Nat.reduceLT, Nat.reduceLeDiff, Nat.reduceMul, Nat.reduceSub, reduceIte]
              repeat' (split <;> (rename_i h; (try simp -implicitDefEqProofs only [Bool.not_eq_true', Bool.not_eq_false', decide_eq_true_eq, decide_eq_false_iff_not] at h); (try simp -implicitDefEqProofs only [W3, ↓D3, ↓DA, ↓DP, ↓DC, QX, *, enc_Includes, hx, hlt, hw1, c0, e1, e2, e3, e5, e6, e7, n6, h3, hst, hpl, hA, hB, hn2, belowStep, List.map_append, List.length_set, Nat.mul_one, rowss_bools, boxess_bools, allRows_bools, maps_bools, mapOs_bools, ren_bools, SH, keep_155_7, leaf_some, isNormal, Int.reduceToNat, id_eq, Int.reduceBEq, Int.reduceLE, Int.reduceLT, Nat.reduceAdd, Nat.reduceEqDiff, Nat.reduceLT, Nat.reduceLeDiff, Nat.reduceMul, Nat.reduceSub, reduceIte])))
            | true =>
              have hst : Roles.stepB a (m', t') (pairOf x) = (m', t') := by
                simp -implicitDefEqProofs only [Roles.stepB, pairOf, e1, e8, hv, Bool.not_true, Bool.and_false, Bool.false_eq_true, if_false]
              simp -implicitDefEqProofs only [W3, ↓D3, ↓DA, ↓DP, ↓DC, QX, enc_Includes, hx, hlt, hw1, c0, e1, e2, e3, e5, n6, h3, h4, hst, belowStep, Nat.mul_one, rowss_bools, boxess_bools, allRows_bools, maps_bools, mapOs_bools, ren_bools, SH, keep_155_7, leaf_some, isNormal, Int.reduceToNat, id_eq, Int.reduceBEq, Int.reduceLE, Int.reduceLT, Nat.reduceAdd, Nat.reduceEqDiff, Nat.reduceLT, Nat.reduceLeDiff, Nat.reduceMul, Nat.reduceSub, reduceIte]
              repeat' (split <;> (rename_i h; (try simp -implicitDefEqProofs only [Bool.not_eq_true', Bool.not_eq_false', decide_eq_true_eq, decide_eq_false_iff_not] at h); (try simp -implicitDefEqProofs only [W3, ↓D3, ↓DA, ↓DP, ↓DC, QX, *, enc_Includes, hx, hlt, hw1, c0, e1, e2, e3, e5, n6, h3, h4, hst, belowStep, Nat.mul_one, rowss_bools, boxess_bools, allRows_bools, maps_bools, mapOs_bools, ren_bools, SH, keep_155_7, leaf_some, isNormal, Int.reduceToNat, id_eq, Int.reduceBEq, Int.reduceLE, Int.reduceLT, Nat.reduceAdd, Nat.reduceEqDiff, Nat.reduceLT, Nat.reduceLeDiff, Nat.reduceMul, Nat.reduceSub, reduceIte])))
          · have e2' : inR x.lesser 0 5 = false := by simpa using e2
            have e8 : Roles.isR x.lesser = false := e2'
            have hst : Roles.stepB a (m', t') (pairOf x) = (m', t') := by
              simp -implicitDefEqProofs only [Roles.stepB, pairOf, e8, Bool.false_and, Bool.and_false, Bool.false_eq_true, if_false]
            simp -implicitDefEqProofs only [W3, ↓D3, ↓DA, ↓DP, ↓DC, QX, enc_Includes, hx, hlt, hw1, c0, e1, e2', h3, h4, hst, belowStep, rowss_bools, boxess_bools, allRows_bools, maps_bools, mapOs_bools, ren_bools, SH, keep_155_7, leaf_some, isNormal, Int.reduceToNat, id_eq, Int.reduceBEq, Int.reduceLE, Int.reduceLT, Nat.reduceAdd, Nat.reduceEqDiff, Nat.reduceLT, Nat.reduceLeDiff, Nat.reduceMul, Nat.reduceSub, reduceIte]
            repeat' (split <;> (rename_i h; (try simp -implicitDefEqProofs only [Bool.not_eq_true', Bool.not_eq_false', decide_eq_true_eq, decide_eq_false_iff_not] at h); (try simp -implicitDefEqProofs only [W3, ↓D3, ↓DA, ↓DP, ↓DC, QX, *, enc_Includes, hx, hlt, hw1, c0, e1, e2', h3, h4, hst, belowStep, rowss_bools, boxess_bools, allRows_bools, maps_bools, mapOs_bools, ren_bools, SH, keep_155_7, leaf_some, isNormal, Int.reduceToNat, id_eq, Int.reduceBEq, Int.reduceLE, Int.reduceLT, Nat.reduceAdd, Nat.reduceEqDiff, Nat.reduceLT, Nat.reduceLeDiff, Nat.reduceMul, Nat.reduceSub, reduceIte])))
        · have e1' : (x.greater == a) = false := by simpa using e1
          have hst : Roles.stepB a (m', t') (pairOf x) = (m', t') := by
            simp -implicitDefEqProofs only [Roles.stepB, pairOf, e1', Bool.false_and, Bool.false_eq_true, if_false]
          simp -implicitDefEqProofs only [W3, ↓D3, ↓DA, ↓DP, ↓DC, QX, enc_Includes, hx, hlt, hw1, c0, e1', h3, h4, hst, belowStep, rowss_bools, boxess_bools, allRows_bools, maps_bools, mapOs_bools, ren_bools, SH, keep_155_7, leaf_some, isNormal, Int.reduceToNat, id_eq, Int.reduceBEq, Int.reduceLE, Int.reduceLT, Nat.reduceAdd, Nat.reduceEqDiff, Nat.reduceLT, Nat.reduceLeDiff, Nat.reduceMul, Nat.reduceSub, reduceIte]
          repeat' (split <;> (rename_i h; (try simp -implicitDefEqProofs only [Bool.not_eq_true', Bool.not_eq_false', decide_eq_true_eq, decide_eq_false_iff_not] at h); (try simp -implicitDefEqProofs only [W3, ↓D3, ↓DA, ↓DP, ↓DC, QX, *, enc_Includes, hx, hlt, hw1, c0, e1', h3, h4, hst, belowStep, rowss_bools, boxess_bools, allRows_bools, maps_bools, mapOs_bools, ren_bools, SH, keep_155_7, leaf_some, isNormal, Int.reduceToNat, id_eq, Int.reduceBEq, Int.reduceLE, Int.reduceLT, Nat.reduceAdd, Nat.reduceEqDiff, Nat.reduceLT, Nat.reduceLeDiff, Nat.reduceMul, Nat.reduceSub, reduceIte])))
      · have h5 := Roles.cnt_le h1
        simp -implicitDefEqProofs only [Roles.left, List.length_cons] at h2
        show t.length ≤ _
        omega
      · simp -implicitDefEqProofs only [firstRegion]
        rw [keep_155_7]
        simp -implicitDefEqProofs only [W3, ↓D3, ↓DA, ↓DP, ↓DC, h1, rowss_bools, boxess_bools, allRows_bools, maps_bools, mapOs_bools, ren_bools, Int.reduceToNat, id_eq, Int.reduceBEq, Int.reduceLE, Int.reduceLT, SH, Nat.reduceAdd, Nat.reduceEqDiff, Nat.reduceLT, Nat.reduceLeDiff, Nat.reduceMul, Nat.reduceSub, reduceIte]
  · rintro ⟨m, t⟩ b' ⟨h1, h2⟩ hn
    cases t with
    | nil => simp at hn
    | cons a t =>
      simp -implicitDefEqProofs only [Option.some.injEq] at hn
      subst hn
      have hl6 : m.length = 6 := h1
      have h3 := Roles.round_left (l := l.map pairOf) (a := a) (t := t) hl6
      refine ⟨⟨by rw [Roles.roundB_len]; exact hl6, by omega⟩, by omega, Roles.ends_cons hl6⟩
  · have : Roles.left (List.replicate 6 false, [r]) = 7 := rfl
    omega
  · have : Roles.left (List.replicate 6 false, [r]) = 7 := rfl
    omega
  · simp -implicitDefEqProofs only [firstRegion]
    rw [keep_155_3]
    simp -implicitDefEqProofs only [W3, ↓D3, ↓DA, ↓DP, ↓DC, rowss_bools, boxess_bools, allRows_bools, maps_bools, mapOs_bools, ren_bools, Int.reduceToNat, id_eq, Int.reduceBEq, Int.reduceLE, Int.reduceLT, SH, Nat.reduceAdd, Nat.reduceEqDiff, Nat.reduceLT, Nat.reduceLeDiff, Nat.reduceMul, Nat.reduceSub, reduceIte]
    rfl
  · rfl
theorem idx_bools {m : List Bool} {i : Nat} (h : i < m.length) : (m.map AV.bool)[i]? = some (.bool ((m[i]?).getD false)) := by
  rw [List.getElem?_map, List.getElem?_eq_getElem h]
  rfl
def under (m : List Bool) (n : Nat) : List Int := ((List.range n).filter fun i => (m[i]?).getD false).map Int.ofNat
noncomputable def rolesUnder (l : List Includes) (r : Int) : List Int := if inR r 0 5 = true then under (Roles.marks (l.map pairOf) r.toNat) 6 else []
theorem under_len (m : List Bool) (n : Nat) : (under m n).length ≤ n := by
  unfold under
  rw [List.length_map]
  exact Nat.le_trans (List.length_filter_le _ _) (by simp)
def goStep (_ : Nat) (_ : Nat) (_ : Unit) : Sum Unit Unit := .inr ()
theorem has_iff {m : List Bool} {i : Nat} : Roles.Has m i ↔ (m[i]?).getD false = true := by
  unfold Roles.Has
  cases m[i]? with
  | none => simp
  | some b => simp
theorem rolesUnder_len (l : List Includes) (r : Int) : (rolesUnder l r).length ≤ 6 := by
  unfold rolesUnder
  split
  · exact under_len _ _
  · simp
theorem plainS_bools (m : List Bool) : (m.map AV.bool).all plainS = true := by
  induction m with
  | nil => rfl
  | cons b m ih => simp [plainS]
theorem evCall_mutOwn {Φ : Phi} {nid n id : Nat} {b : Bool} {e sz : Nat} {xs : List AV} {v : AV} {dst : Option Nat} {st : St} : evCall Φ [.mut, .ro] nid n [.own id b e sz xs, v] [] dst st = evGive Φ nid n [(.mut, .own id b e sz xs), (.ro, v)] dst st := rfl
theorem evCall_mutAgg {Φ : Phi} {nid n : Nat} {cs : List AV} {v : AV} {dst : Option Nat} {st : St} : evCall Φ [.mut, .ro] nid n [.agg cs, v] [] dst st = evGive Φ nid n [(.mut, .agg cs), (.ro, v)] dst st := rfl
section
variable {Φ : Phi} {nid n a b t : Nat} {w x y z : AV} {dst : Option Nat} {st : St} {P : Program}
theorem look_nil {α : Type} {i : Nat} : look i ([] : List (Nat × α)) = none := rfl
theorem evCall_io1 : evCall Φ [.io] nid n [.ptr a b] [] dst st = evGive Φ nid n [(.io, .ptr a b)] dst st := rfl
theorem evCall_io2 : evCall Φ [.io, .ro] nid n [.ptr a b, x] [] dst st = evGive Φ nid n [(.io, .ptr a b), (.ro, x)] dst st := rfl
theorem evCall_io3 : evCall Φ [.io, .ro, .ro] nid n [.ptr a b, x, y] [] dst st = evGive Φ nid n [(.io, .ptr a b), (.ro, x), (.ro, y)] dst st := rfl
theorem evCall_io4 : evCall Φ [.io, .ro, .ro, .ro] nid n [.ptr a b, x, y, z] [] dst st = evGive Φ nid n [(.io, .ptr a b), (.ro, x), (.ro, y), (.ro, z)] dst st := rfl
def finish0 (P : Program) (md : List Mode) (t : Nat) (st : St) : Option (AV × List (List AV)) := finish P md [.tmp t] 1 st
def finJ (P : Program) (md : List Mode) (t : Nat) (st : St) (v : AV) : Option (AV × List (List AV)) := if isPtrB v = true then finish0 P md t st else finI st v
theorem finJ_io (m : Mode) (md : List Mode) (hm : mutSlots 0 (m :: md) = []) : finish P (m :: md) [.tmp t] 1 st = finJ P (m :: md) t st (st.get t) := by
  unfold finJ
  split
  · rfl
  · rename_i h
    exact finish_io1 hm (by simpa using h)
theorem finJ_1 : finish P [.io] [.tmp t] 1 st = finJ P [.io] t st (st.get t) := finJ_io _ _ rfl
theorem finJ_2 : finish P [.io, .ro] [.tmp t] 1 st = finJ P [.io, .ro] t st (st.get t) := finJ_io _ _ rfl
theorem finJ_3 : finish P [.io, .ro, .ro] [.tmp t] 1 st = finJ P [.io, .ro, .ro] t st (st.get t) := finJ_io _ _ rfl
theorem finJ_4 : finish P [.io, .ro, .ro, .ro] [.tmp t] 1 st = finJ P [.io, .ro, .ro, .ro] t st (st.get t) := finJ_io _ _ rfl
variable {md : List Mode}
theorem finJ_int {k : IntKind} {i : Int} : finJ P md t st (.int k i) = finI st (.int k i) := rfl
theorem finJ_bool {c : Bool} : finJ P md t st (.bool c) = finI st (.bool c) := rfl
theorem finJ_str {s : ByteArray} : finJ P md t st (.str s) = finI st (.str s) := rfl
theorem finJ_nils : finJ P md t st .nils = finI st .nils := rfl
theorem finJ_agg {cs : List AV} : finJ P md t st (.agg cs) = finI st (.agg cs) := rfl
theorem finJ_own {id e sz : Nat} {fz : Bool} {xs : List AV} : finJ P md t st (.own id fz e sz xs) = finI st (.own id fz e sz xs) := rfl
theorem finJ_sl {fl : Bool} {xs : List AV} : finJ P md t st (.sl fl xs) = finI st (.sl fl xs) := rfl
theorem finJ_tup {cs : List AV} : finJ P md t st (.tup cs) = finI st (.tup cs) := rfl
end
end Go.Proofs.YtaojmienjikfbaaGreatDoor.Flat
