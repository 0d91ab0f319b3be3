/-
What is handed to a law, told as lists and trees.
-/
import Derived.Test.YtggkeechdakccaaFlatCE
import Derived.Test.YtggkeechdakccaaEqD
import Derived.Test.YtggkeechdakccaaFlatM4
set_option linter.unusedVariables false
set_option linter.unusedSimpArgs false
set_option maxRecDepth 10000
namespace Go.Proofs.Ytggkeechdakccaa.Flat
theorem shape_22 (n : Nat) (a : AV) (h : Typed Go.Proofs.Try.prog n 22 a) : ∃ y : List Int, a = .sl false (y.map (AV.int .u8)) ∧ FitL (fun _ => True) y := by
  obtain ⟨m1, xs1, hm1, rfl, hx1, hw1, hl1⟩ := typed_slice Go.Proofs.Try.underlying22 h
  obtain ⟨y1, rfl, hy1⟩ := rows_of (f := (AV.int .u8)) (Q := (fun _ => True)) (fun x hx => by obtain ⟨z, rfl, _⟩ := typed_int Go.Proofs.Try.underlying5 (hx1 x hx); exact ⟨z, rfl, trivial⟩)
  have hb1 : 1 ≤ Program.bytesOf Go.Proofs.Try.prog 5 := of_decide_eq_true (by kernel_rfl)
  exact ⟨y1, rfl, by
    simp -implicitDefEqProofs only [List.length_map] at hw1
    have h1 := Nat.mul_le_mul_left y1.length hb1
    unfold reachBytes at hw1
    omega, hy1⟩
end Go.Proofs.Ytggkeechdakccaa.Flat
