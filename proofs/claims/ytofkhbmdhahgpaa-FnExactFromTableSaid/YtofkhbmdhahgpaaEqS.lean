/-
What is handed to a law, told as lists and trees.
-/
import Derived.Test.YtofkhbmdhahgpaaFlatCE
import Derived.Test.YtofkhbmdhahgpaaEqD
import Derived.Test.YtofkhbmdhahgpaaFlatM4
set_option linter.unusedVariables false
set_option linter.unusedSimpArgs false
set_option maxRecDepth 10000
namespace Go.Proofs.Ytofkhbmdhahgpaa.Flat
theorem shape_78 (n : Nat) (a : AV) (h : Typed Go.Proofs.Try.prog n 78 a) : ∃ x : Choice, a = x.enc false := by
  obtain ⟨m, bs, hm, rfl, g⟩ := typed_struct Go.Proofs.Try.underlying78 h
  simp -implicitDefEqProofs only [List.map_cons, List.map_nil, each_cons, each_nil] at g
  obtain ⟨_, _, rfl, t0, _, _, rfl, t1, _, _, rfl, t2, rfl⟩ := g
  obtain ⟨y0, rfl, _⟩ := typed_int Go.Proofs.Try.underlying3 t0
  obtain ⟨y1, rfl, _⟩ := typed_int Go.Proofs.Try.underlying3 t1
  obtain ⟨y2, rfl, _⟩ := typed_int Go.Proofs.Try.underlying3 t2
  refine ⟨⟨y0, y1, y2⟩, ?_⟩
  first | rfl | (simp -implicitDefEqProofs only [enc_Choice]; rfl)
theorem shape_36 (n : Nat) (a : AV) (h : Typed Go.Proofs.Try.prog n 36 a) : ∃ x : Diagram, a = x.enc false ∧ x.fits := by
  obtain ⟨m, bs, hm, rfl, g⟩ := typed_struct Go.Proofs.Try.underlying36 h
  simp -implicitDefEqProofs only [List.map_cons, List.map_nil, each_cons, each_nil] at g
  obtain ⟨_, _, rfl, t0, _, _, rfl, t1, _, _, rfl, t2, rfl⟩ := g
  obtain ⟨y0, rfl, _⟩ := typed_int Go.Proofs.Try.underlying3 t0
  obtain ⟨m1, xs1, hm1, rfl, hx1, hw1, hl1⟩ := typed_slice Go.Proofs.Try.underlying34 t1
  obtain ⟨y1, rfl, hy1⟩ := rows_of (f := (Choice.enc false)) (Q := (fun _ => True)) (fun x hx => by obtain ⟨z, hz⟩ := shape_78 _ _ (hx1 x hx); exact ⟨z, hz, trivial⟩)
  have hb1 : 1 ≤ Program.bytesOf Go.Proofs.Try.prog 78 := of_decide_eq_true (by kernel_rfl)
  have hf1 : FitL (fun _ => True) y1 := ⟨by
    simp -implicitDefEqProofs only [List.length_map] at hw1
    have h1 := Nat.mul_le_mul_left y1.length hb1
    unfold reachBytes at hw1
    omega, hy1⟩
  obtain ⟨y2, rfl, _⟩ := typed_int Go.Proofs.Try.underlying3 t2
  refine ⟨⟨y0, y1, y2⟩, ?_, hf1⟩
  first | rfl | (simp -implicitDefEqProofs only [enc_Diagram]; rfl)
theorem shape_22 (n : Nat) (a : AV) (h : Typed Go.Proofs.Try.prog n 22 a) : ∃ y : List Bool, a = .sl false (y.map AV.bool) ∧ FitL (fun _ => True) y := by
  obtain ⟨m1, xs1, hm1, rfl, hx1, hw1, hl1⟩ := typed_slice Go.Proofs.Try.underlying22 h
  obtain ⟨y1, rfl, hy1⟩ := rows_of (f := AV.bool) (Q := (fun _ => True)) (fun x hx => by obtain ⟨z, rfl⟩ := typed_bool Go.Proofs.Try.underlying4 (hx1 x hx); exact ⟨z, rfl, trivial⟩)
  have hb1 : 1 ≤ Program.bytesOf Go.Proofs.Try.prog 4 := of_decide_eq_true (by kernel_rfl)
  exact ⟨y1, rfl, by
    simp -implicitDefEqProofs only [List.length_map] at hw1
    have h1 := Nat.mul_le_mul_left y1.length hb1
    unfold reachBytes at hw1
    omega, hy1⟩
theorem shape_34 (n : Nat) (a : AV) (h : Typed Go.Proofs.Try.prog n 34 a) : ∃ y : List Choice, a = .sl false (y.map (Choice.enc false)) ∧ FitL (fun _ => True) y := by
  obtain ⟨m1, xs1, hm1, rfl, hx1, hw1, hl1⟩ := typed_slice Go.Proofs.Try.underlying34 h
  obtain ⟨y1, rfl, hy1⟩ := rows_of (f := (Choice.enc false)) (Q := (fun _ => True)) (fun x hx => by obtain ⟨z, hz⟩ := shape_78 _ _ (hx1 x hx); exact ⟨z, hz, trivial⟩)
  have hb1 : 1 ≤ Program.bytesOf Go.Proofs.Try.prog 78 := of_decide_eq_true (by kernel_rfl)
  exact ⟨y1, rfl, by
    simp -implicitDefEqProofs only [List.length_map] at hw1
    have h1 := Nat.mul_le_mul_left y1.length hb1
    unfold reachBytes at hw1
    omega, hy1⟩
end Go.Proofs.Ytofkhbmdhahgpaa.Flat
