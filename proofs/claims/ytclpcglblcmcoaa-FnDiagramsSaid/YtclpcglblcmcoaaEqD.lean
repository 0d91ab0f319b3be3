/-
The program's data: as lists and trees, and how they are told.
-/
import Derived.Test.YtclpcglblcmcoaaFlatM5
import Derived.IntWalk
set_option linter.unusedVariables false
set_option linter.unusedSimpArgs false
namespace Go.Proofs.Ytclpcglblcmcoaa.Flat
def FitL {α : Type} (p : α → Prop) (s : List α) : Prop := s.length ≤ 140737488355328 ∧ ∀ x ∈ s, p x
theorem zip_at {α β : Type} {s : List α} {t : List β} (hl : s.length = t.length) {pre r : List (α × β)} {x : α × β} (h : s.zip t = pre ++ x :: r) : s[pre.length]? = some x.1 ∧ t[pre.length]? = some x.2 ∧ s = pre.map Prod.fst ++ x.1 :: r.map Prod.fst ∧ t = pre.map Prod.snd ++ x.2 :: r.map Prod.snd := by
  have h1 : (s.zip t).map Prod.fst = s := List.map_fst_zip (by omega)
  have h2 : (s.zip t).map Prod.snd = t := List.map_snd_zip (by omega)
  rw [h] at h1 h2
  refine ⟨?_, ?_, by rw [← h1]; simp, by rw [← h2]; simp⟩
  · rw [← h1]; simp
  · rw [← h2]; simp
theorem at_row {α : Type} {s pre r : List α} {x : α} (h : s = pre ++ x :: r) (hs : s.length ≤ 140737488355328) : s[pre.length]? = some x ∧ x ∈ s ∧ ((pre.length : Nat) : Int) < ((s.length : Nat) : Int) ∧ IntKind.i64.wrap ((pre.length : Int) + 1) = ((pre.length + 1 : Nat) : Int) ∧ pre.length < s.length := by
  have hl : s.length = pre.length + (r.length + 1) := by rw [h]; simp
  refine ⟨by rw [h]; simp, by rw [h]; simp, by omega, ?_, by omega⟩
  rw [IntWalk.i64_in _ (by omega)]; omega
theorem take_row {α : Type} {s pre r : List α} {x : α} (h : s = pre ++ x :: r) : s.take pre.length = pre ∧ s.take (pre.length + 1) = pre ++ [x] := by
  subst h
  refine ⟨by simp, ?_⟩
  rw [List.take_append, List.take_of_length_le (by omega)]
  simp
noncomputable def eqStep {α : Type} [DecidableEq α] (_ : Nat) (p : α × α) (_ : Unit) : Sum Bool Unit := if decide (p.1 = p.2) = true then .inr () else .inl false
theorem eqLoop {α : Type} [DecidableEq α] : ∀ (s t : List α) (i : Nat), s.length = t.length → loopL eqStep (fun _ => true) i (s.zip t) () = decide (s = t)
  | [], [], i, h => by simp [loopL]
  | [], y :: t, i, h => by simp at h
  | x :: s, [], i, h => by simp at h
  | x :: s, y :: t, i, h => by
    simp -implicitDefEqProofs only [List.zip_cons_cons, loopL, eqStep]
    by_cases e : x = y
    · subst e
      simp -implicitDefEqProofs only [decide_true, if_true]
      rw [eqLoop s t _ (by simpa using h)]
      simp
    · simp [e]
def indexBy {α : Type} (p : α → Bool) : Nat → List α → Int
  | _, [] => -1
  | i, x :: r => if p x = true then (i : Int) else indexBy p (i + 1) r
def indexStep {α : Type} (p : α → Bool) (i : Nat) (x : α) (_ : Unit) : Sum Int Unit := if p x = true then .inl (i : Int) else .inr ()
theorem indexLoop {α : Type} (p : α → Bool) : ∀ (s : List α) (i : Nat), loopL (indexStep p) (fun _ => -1) i s () = indexBy p i s
  | [], i => rfl
  | x :: r, i => by
    simp -implicitDefEqProofs only [loopL, indexStep, indexBy]
    cases p x
    · simp -implicitDefEqProofs only [Bool.false_eq_true, if_false]; exact indexLoop p r _
    · simp
theorem indexBy_iff {α : Type} (p : α → Bool) : ∀ (s : List α) (i : Nat), 0 ≤ indexBy p i s ↔ s.any p = true
  | [], i => by simp [indexBy]
  | x :: r, i => by
    by_cases h : p x = true
    · have : indexBy p i (x :: r) = (i : Int) := by simp [indexBy, h]
      rw [this]
      simp [h]
    · have : indexBy p i (x :: r) = indexBy p (i + 1) r := by simp [indexBy, h]
      rw [this, indexBy_iff p r (i + 1)]
      simp [h]
theorem indexBy_nonneg {α : Type} (p : α → Bool) (s : List α) (i : Nat) : decide (0 ≤ indexBy p i s) = s.any p := by
  rw [Bool.eq_iff_iff, decide_eq_true_iff]
  exact indexBy_iff p s i
structure Choice where
  atom : Int
  low : Int
  high : Int
noncomputable instance : DecidableEq Choice := fun a b => Classical.propDecidable (a = b)
instance : Inhabited Choice := ⟨⟨default, default, default⟩⟩
def Choice.enc (fl : Bool) (x : Choice) : AV := .agg [.int .i64 x.atom, .int .i64 x.low, .int .i64 x.high]
theorem enc_Choice {fl : Bool} {x : Choice} : x.enc fl = .agg [.int .i64 x.atom, .int .i64 x.low, .int .i64 x.high] := rfl
theorem shut_Choice {fl : Bool} {x : Choice} : (x.enc fl).shut = x.enc fl := by
  rw [enc_Choice]
  rfl
theorem shuts_Choice {fl : Bool} {l : List Choice} : AV.shuts (l.map (Choice.enc fl)) = l.map (Choice.enc fl) := shuts_same (fun _ => shut_Choice) l
structure Diagram where
  atoms : Int
  nodes : List Choice
  root : Int
noncomputable instance : DecidableEq Diagram := fun a b => Classical.propDecidable (a = b)
instance : Inhabited Diagram := ⟨⟨default, default, default⟩⟩
def Diagram.enc (fl : Bool) (x : Diagram) : AV := .agg [.int .i64 x.atoms, .sl fl (x.nodes.map (Choice.enc fl)), .int .i64 x.root]
theorem enc_Diagram {fl : Bool} {x : Diagram} : x.enc fl = .agg [.int .i64 x.atoms, .sl fl (x.nodes.map (Choice.enc fl)), .int .i64 x.root] := rfl
def Diagram.w (x : Diagram) : Nat := x.nodes.length
theorem shut_Diagram {fl : Bool} {x : Diagram} : (x.enc fl).shut = x.enc fl := by
  rw [enc_Diagram]
  rfl
theorem shuts_Diagram {fl : Bool} {l : List Diagram} : AV.shuts (l.map (Diagram.enc fl)) = l.map (Diagram.enc fl) := shuts_same (fun _ => shut_Diagram) l
theorem SH : type_of% (And.intro (And.intro @shuts_int @shuts_bool) (And.intro @shuts_Choice @shuts_Diagram)) := (And.intro (And.intro @shuts_int @shuts_bool) (And.intro @shuts_Choice @shuts_Diagram))
end Go.Proofs.Ytclpcglblcmcoaa.Flat
