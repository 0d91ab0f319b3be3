/-
The program's data: as lists and trees, and how they are told.
-/
import Derived.Test.YtofkhbmdhahgpaaFlatM5
import Derived.IntWalk
set_option linter.unusedVariables false
set_option linter.unusedSimpArgs false
namespace Go.Proofs.Ytofkhbmdhahgpaa.Flat
def FitL {α : Type} (p : α → Prop) (s : List α) : Prop := s.length ≤ 140737488355328 ∧ ∀ x ∈ s, p x
/-- Two rows of one length, as one. -/
theorem zip_at {α β : Type} {s : List α} {t : List β} (hl : s.length = t.length) {pre r : List (α × β)} {x : α × β} (h : s.zip t = pre ++ x :: r) : s[pre.length]? = some x.1 ∧ t[pre.length]? = some x.2 ∧ s = pre.map Prod.fst ++ x.1 :: r.map Prod.fst ∧ t = pre.map Prod.snd ++ x.2 :: r.map Prod.snd := by
  have h1 : (s.zip t).map Prod.fst = s := List.map_fst_zip (by omega)
  have h2 : (s.zip t).map Prod.snd = t := List.map_snd_zip (by omega)
  rw [h] at h1 h2
  refine ⟨?_, ?_, by rw [← h1]; simp, by rw [← h2]; simp⟩
  · rw [← h1]; simp
  · rw [← h2]; simp
/-- What an element's place tells. -/
theorem at_row {α : Type} {s pre r : List α} {x : α} (h : s = pre ++ x :: r) (hs : s.length ≤ 140737488355328) : s[pre.length]? = some x ∧ x ∈ s ∧ ((pre.length : Nat) : Int) < ((s.length : Nat) : Int) ∧ IntKind.i64.wrap ((pre.length : Int) + 1) = ((pre.length + 1 : Nat) : Int) ∧ pre.length < s.length := by
  have hl : s.length = pre.length + (r.length + 1) := by rw [h]; simp
  refine ⟨by rw [h]; simp, by rw [h]; simp, by omega, ?_, by omega⟩
  rw [IntWalk.i64_in _ (by omega)]; omega
def toStep {α : Type} (g : α → AV) (i : Nat) (x : α) (xs : List AV) : Sum (List AV) (List AV) := .inr (xs.set i (g x))
theorem toLoop {α : Type} (g : α → AV) : ∀ (s : List α) (i : Nat) (xs : List AV), xs.length = i + s.length → loopL (toStep g) id i s xs = xs.take i ++ s.map g
  | [], i, xs, h => by simp -implicitDefEqProofs only [loopL, List.map_nil, List.append_nil, id]; rw [List.take_of_length_le (by simp at h; omega)]
  | c :: r, i, xs, h => by
    simp -implicitDefEqProofs only [List.length_cons] at h
    simp -implicitDefEqProofs only [loopL, toStep]
    rw [toLoop g r (i + 1) (xs.set i (g c)) (by simp; omega)]
    rw [List.take_set, List.set_eq_take_append_cons_drop]
    simp -implicitDefEqProofs only [List.length_take, List.map_cons]
    rw [if_pos (by omega), List.take_take, List.drop_take]
    have e1 : min i (i + 1) = i := by omega
    rw [e1, List.append_assoc]
    simp
noncomputable def eqStep {α : Type} [DecidableEq α] (_ : Nat) (p : α × α) (_ : Unit) : Sum Bool Unit := if decide (p.1 = p.2) = true then .inr () else .inl false
theorem eqLoop {α : Type} [DecidableEq α] : ∀ (s t : List α) (i : Nat), s.length = t.length → loopL eqStep (fun _ => true) i (s.zip t) () = decide (s = t)
  | [], [], i, h => by simp [loopL]
  | [], y :: t, i, h => by simp at h
  | x :: s, [], i, h => by simp at h
  | x :: s, y :: t, i, h => by
    simp -implicitDefEqProofs only [List.zip_cons_cons, loopL, eqStep]
    by_cases e : x = y
    · subst e
      simp -implicitDefEqProofs only [decide_true, if_true]
      rw [eqLoop s t _ (by simpa using h)]
      simp
    · simp [e]
def indexBy {α : Type} (p : α → Bool) : Nat → List α → Int
  | _, [] => -1
  | i, x :: r => if p x = true then (i : Int) else indexBy p (i + 1) r
def indexStep {α : Type} (p : α → Bool) (i : Nat) (x : α) (_ : Unit) : Sum Int Unit := if p x = true then .inl (i : Int) else .inr ()
theorem indexLoop {α : Type} (p : α → Bool) : ∀ (s : List α) (i : Nat), loopL (indexStep p) (fun _ => -1) i s () = indexBy p i s
  | [], i => rfl
  | x :: r, i => by
    simp -implicitDefEqProofs only [loopL, indexStep, indexBy]
    cases p x
    · simp -implicitDefEqProofs only [Bool.false_eq_true, if_false]; exact indexLoop p r _
    · simp
structure Choice where
  atom : Int
  low : Int
  high : Int
noncomputable instance : DecidableEq Choice := fun a b => Classical.propDecidable (a = b)
instance : Inhabited Choice := ⟨⟨default, default, default⟩⟩
def Choice.enc (fl : Bool) (x : Choice) : AV := .agg [.int .i64 x.atom, .int .i64 x.low, .int .i64 x.high]
theorem enc_Choice {fl : Bool} {x : Choice} : x.enc fl = .agg [.int .i64 x.atom, .int .i64 x.low, .int .i64 x.high] := rfl
theorem shut_Choice {fl : Bool} {x : Choice} : (x.enc fl).shut = x.enc fl := by
  rw [enc_Choice]
  rfl
theorem shuts_Choice {fl : Bool} {l : List Choice} : AV.shuts (l.map (Choice.enc fl)) = l.map (Choice.enc fl) := shuts_same (fun _ => shut_Choice) l
structure Diagram where
  atoms : Int
  nodes : List Choice
  root : Int
noncomputable instance : DecidableEq Diagram := fun a b => Classical.propDecidable (a = b)
instance : Inhabited Diagram := ⟨⟨default, default, default⟩⟩
def Diagram.enc (fl : Bool) (x : Diagram) : AV := .agg [.int .i64 x.atoms, .sl fl (x.nodes.map (Choice.enc fl)), .int .i64 x.root]
theorem enc_Diagram {fl : Bool} {x : Diagram} : x.enc fl = .agg [.int .i64 x.atoms, .sl fl (x.nodes.map (Choice.enc fl)), .int .i64 x.root] := rfl
def Diagram.w (x : Diagram) : Nat := x.nodes.length
def Diagram.fits (x : Diagram) : Prop := FitL (fun _ => True) x.nodes
theorem shut_Diagram {fl : Bool} {x : Diagram} : (x.enc fl).shut = x.enc fl := by
  rw [enc_Diagram]
  rfl
theorem shuts_Diagram {fl : Bool} {l : List Diagram} : AV.shuts (l.map (Diagram.enc fl)) = l.map (Diagram.enc fl) := shuts_same (fun _ => shut_Diagram) l
def Diagram.encO (x : Diagram) : AV := .agg [.int .i64 x.atoms, .own 0 false 68 3 (x.nodes.map (Choice.enc true)), .int .i64 x.root]
theorem SH : type_of% (And.intro (And.intro @shuts_int @shuts_bool) (And.intro @shuts_Choice @shuts_Diagram)) := (And.intro (And.intro @shuts_int @shuts_bool) (And.intro @shuts_Choice @shuts_Diagram))
end Go.Proofs.Ytofkhbmdhahgpaa.Flat
