/-
What is handed to a law, told as lists and trees.
-/
import Derived.Test.YtkolknigffoleaaFlatCE
import Derived.Test.YtkolknigffoleaaEqD
import Derived.Test.YtkolknigffoleaaFlatM4
set_option linter.unusedVariables false
set_option linter.unusedSimpArgs false
set_option maxRecDepth 10000
namespace Go.Proofs.Ytkolknigffoleaa.Flat
theorem shape_49 (n : Nat) (a : AV) (h : Typed Go.Proofs.Try.prog n 49 a) : ∃ x : Cond, a = x.enc false ∧ x.fits := by
  induction n using Nat.strongRecOn generalizing a with
  | ind n ih =>
    obtain ⟨m, bs, hm, rfl, g⟩ := typed_struct Go.Proofs.Try.underlying49 h
    simp -implicitDefEqProofs only [List.map_cons, List.map_nil, each_cons, each_nil] at g
    obtain ⟨_, _, rfl, t0, _, _, rfl, t1, _, _, rfl, t2, _, _, rfl, t3, rfl⟩ := g
    obtain ⟨y0, rfl, _⟩ := typed_int Go.Proofs.Try.underlying3 t0
    obtain ⟨y1, rfl, _⟩ := typed_int Go.Proofs.Try.underlying3 t1
    obtain ⟨y2, rfl, _⟩ := typed_int Go.Proofs.Try.underlying3 t2
    obtain ⟨m3, xs3, hm3, rfl, hx3, hw3, hl3⟩ := typed_slice Go.Proofs.Try.underlying47 t3
    obtain ⟨y3, rfl, hy3⟩ := rows_of (f := (Cond.enc false)) (Q := Cond.fits) (fun x hx => ih m3 (by omega) x (hx3 x hx))
    have hb3 : 1 ≤ Program.bytesOf Go.Proofs.Try.prog 49 := of_decide_eq_true (by kernel_rfl)
    have hf3 : FitL Cond.fits y3 := ⟨by
      simp -implicitDefEqProofs only [List.length_map] at hw3
      have h1 := Nat.mul_le_mul_left y3.length hb3
      unfold reachBytes at hw3
      omega, hy3⟩
    refine ⟨⟨y0, y1, y2, y3⟩, ?_, (Cond.fits_eq _).2 hf3⟩
    rw [enc_Cond]; rfl
theorem shape_51 (n : Nat) (a : AV) (h : Typed Go.Proofs.Try.prog n 51 a) : ∃ x : Rule, a = x.enc false ∧ x.fits := by
  obtain ⟨m, bs, hm, rfl, g⟩ := typed_struct Go.Proofs.Try.underlying51 h
  simp -implicitDefEqProofs only [List.map_cons, List.map_nil, each_cons, each_nil] at g
  obtain ⟨_, _, rfl, t0, _, _, rfl, t1, _, _, rfl, t2, _, _, rfl, t3, rfl⟩ := g
  obtain ⟨y0, rfl, _⟩ := typed_int Go.Proofs.Try.underlying3 t0
  obtain ⟨y1, rfl, _⟩ := typed_int Go.Proofs.Try.underlying3 t1
  obtain ⟨y2, rfl, _⟩ := typed_int Go.Proofs.Try.underlying3 t2
  obtain ⟨y3, rfl, hf3⟩ := shape_49 _ _ t3
  refine ⟨⟨y0, y1, y2, y3⟩, ?_, hf3⟩
  first | rfl | (simp -implicitDefEqProofs only [enc_Cond, enc_Rule]; rfl)
theorem shape_24 (n : Nat) (a : AV) (h : Typed Go.Proofs.Try.prog n 24 a) : ∃ x : Policy, a = x.enc false ∧ x.fits := by
  obtain ⟨m, bs, hm, rfl, g⟩ := typed_struct Go.Proofs.Try.underlying24 h
  simp -implicitDefEqProofs only [List.map_cons, List.map_nil, each_cons, each_nil] at g
  obtain ⟨_, _, rfl, t0, _, _, rfl, t1, rfl⟩ := g
  obtain ⟨y0, rfl, _⟩ := typed_int Go.Proofs.Try.underlying3 t0
  obtain ⟨m1, xs1, hm1, rfl, hx1, hw1, hl1⟩ := typed_slice Go.Proofs.Try.underlying22 t1
  obtain ⟨y1, rfl, hy1⟩ := rows_of (f := (Rule.enc false)) (Q := Rule.fits) (fun x hx => shape_51 _ _ (hx1 x hx))
  have hb1 : 1 ≤ Program.bytesOf Go.Proofs.Try.prog 51 := of_decide_eq_true (by kernel_rfl)
  have hf1 : FitL Rule.fits y1 := ⟨by
    simp -implicitDefEqProofs only [List.length_map] at hw1
    have h1 := Nat.mul_le_mul_left y1.length hb1
    unfold reachBytes at hw1
    omega, hy1⟩
  refine ⟨⟨y0, y1⟩, ?_, hf1⟩
  first | rfl | (simp -implicitDefEqProofs only [enc_Policy]; rfl)
theorem shape_22 (n : Nat) (a : AV) (h : Typed Go.Proofs.Try.prog n 22 a) : ∃ y : List Rule, a = .sl false (y.map (Rule.enc false)) ∧ FitL Rule.fits y := by
  obtain ⟨m1, xs1, hm1, rfl, hx1, hw1, hl1⟩ := typed_slice Go.Proofs.Try.underlying22 h
  obtain ⟨y1, rfl, hy1⟩ := rows_of (f := (Rule.enc false)) (Q := Rule.fits) (fun x hx => shape_51 _ _ (hx1 x hx))
  have hb1 : 1 ≤ Program.bytesOf Go.Proofs.Try.prog 51 := of_decide_eq_true (by kernel_rfl)
  exact ⟨y1, rfl, by
    simp -implicitDefEqProofs only [List.length_map] at hw1
    have h1 := Nat.mul_le_mul_left y1.length hb1
    unfold reachBytes at hw1
    omega, hy1⟩
theorem shape_47 (n : Nat) (a : AV) (h : Typed Go.Proofs.Try.prog n 47 a) : ∃ y : List Cond, a = .sl false (y.map (Cond.enc false)) ∧ FitL Cond.fits y := by
  obtain ⟨m1, xs1, hm1, rfl, hx1, hw1, hl1⟩ := typed_slice Go.Proofs.Try.underlying47 h
  obtain ⟨y1, rfl, hy1⟩ := rows_of (f := (Cond.enc false)) (Q := Cond.fits) (fun x hx => shape_49 _ _ (hx1 x hx))
  have hb1 : 1 ≤ Program.bytesOf Go.Proofs.Try.prog 49 := of_decide_eq_true (by kernel_rfl)
  exact ⟨y1, rfl, by
    simp -implicitDefEqProofs only [List.length_map] at hw1
    have h1 := Nat.mul_le_mul_left y1.length hb1
    unfold reachBytes at hw1
    omega, hy1⟩
end Go.Proofs.Ytkolknigffoleaa.Flat
