/-
Which roles are reached: the plain law, no program in sight.
-/
import Derived.Test.YtbajieiodabdgaaEqG
set_option linter.unusedVariables false
set_option linter.unusedSimpArgs false
namespace Go.Proofs.Ytbajieiodabdgaa.Flat.Roles
def isR (z : Int) : Bool := decide (0 ≤ z) && decide (z ≤ 5)
/-- A pair that counts: from a to b. -/
def Edge (l : List (Int × Int)) (a b : Nat) : Prop := ∃ x ∈ l, isR x.1 = true ∧ isR x.2 = true ∧ x.1.toNat = a ∧ x.2.toNat = b
inductive Reach (l : List (Int × Int)) : Nat → Nat → Prop
  | refl (a : Nat) : Reach l a a
  | step {a b c : Nat} (h : Reach l a b) (e : Edge l b c) : Reach l a c
theorem Reach.trans {l : List (Int × Int)} {a b c : Nat} (h : Reach l a b) (h' : Reach l b c) : Reach l a c := by
  induction h' with
  | refl => exact h
  | step _ e ih => exact .step ih e
def Has (m : List Bool) (i : Nat) : Prop := m[i]? = some true
def stepS (m : List Bool) (x : Int × Int) : List Bool := if (isR x.1 && isR x.2 && (m[x.1.toNat]?).getD false) = true then m.set x.2.toNat true else m
def pass (l : List (Int × Int)) (m : List Bool) : List Bool := l.foldl stepS m
def passes (l : List (Int × Int)) : Nat → List Bool → List Bool
  | 0, m => m
  | n + 1, m => passes l n (pass l m)
/-- How many are marked. -/
def cnt (m : List Bool) : Nat := m.count true
/-- Six passes reach all that is reached. -/
def marks (l : List (Int × Int)) (r : Nat) : List Bool := passes l 6 ((List.replicate 6 false).set r true)
/-! ### the other side: what is still to do -/
/-- One pair, for role at: what is reached, what is still to do. -/
def stepB (at' : Int) (p : List Bool × List Int) (x : Int × Int) : List Bool × List Int :=
  if (x.1 == at' && (isR x.2 && !((p.1[x.2.toNat]?).getD false))) = true then (p.1.set x.2.toNat true, p.2 ++ [x.2]) else p
def roundB (l : List (Int × Int)) (at' : Int) (p : List Bool × List Int) : List Bool × List Int := l.foldl (stepB at') p
/-- The rounds, at most n. -/
def belowN (l : List (Int × Int)) : Nat → List Bool → List Int → List Bool
  | 0, m, _ => m
  | _, m, [] => m
  | n + 1, m, a :: t => belowN l n (roundB l a (m, t)).1 (roundB l a (m, t)).2
def below (l : List (Int × Int)) (r : Int) : List Bool := belowN l 7 (List.replicate 6 false) [r]
/-- Reached by one pair or more. -/
def Reach1 (l : List (Int × Int)) (a c : Nat) : Prop := ∃ b, Reach l a b ∧ Edge l b c
/-- What is marked is reached, and what is to do. -/
def Sound (l : List (Int × Int)) (r : Nat) (p : List Bool × List Int) : Prop := (∀ i, Has p.1 i → Reach1 l r i) ∧ ∀ z ∈ p.2, isR z = true ∧ Reach l r z.toNat
/-- How much there is to do. -/
def left (p : List Bool × List Int) : Nat := 6 - cnt p.1 + p.2.length
end Go.Proofs.Ytbajieiodabdgaa.Flat.Roles
