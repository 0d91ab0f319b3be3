/-
What is handed to a law, told as lists and trees.
-/
import Derived.Test.YtaoemmefjakjnaaFlatCE
import Derived.Test.YtaoemmefjakjnaaEqD
import Derived.Test.YtaoemmefjakjnaaFlatM4
set_option linter.unusedVariables false
set_option linter.unusedSimpArgs false
set_option maxRecDepth 10000
namespace Go.Proofs.Ytaoemmefjakjnaa.Flat
theorem shape_81 (n : Nat) (a : AV) (h : Typed Go.Proofs.Try.prog n 81 a) : ∃ x : Includes, a = x.enc false := by
  obtain ⟨m, bs, hm, rfl, g⟩ := typed_struct Go.Proofs.Try.underlying81 h
  simp -implicitDefEqProofs only [List.map_cons, List.map_nil, each_cons, each_nil] at g
  obtain ⟨_, _, rfl, t0, _, _, rfl, t1, rfl⟩ := g
  obtain ⟨y0, rfl, _⟩ := typed_int Go.Proofs.Try.underlying3 t0
  obtain ⟨y1, rfl, _⟩ := typed_int Go.Proofs.Try.underlying3 t1
  refine ⟨⟨y0, y1⟩, ?_⟩
  first | rfl | (simp -implicitDefEqProofs only [enc_Includes]; rfl)
theorem shape_74 (n : Nat) (a : AV) (h : Typed Go.Proofs.Try.prog n 74 a) : ∃ x : Cond, a = x.enc false ∧ x.fits := by
  induction n using Nat.strongRecOn generalizing a with
  | ind n ih =>
    obtain ⟨m, bs, hm, rfl, g⟩ := typed_struct Go.Proofs.Try.underlying74 h
    simp -implicitDefEqProofs only [List.map_cons, List.map_nil, each_cons, each_nil] at g
    obtain ⟨_, _, rfl, t0, _, _, rfl, t1, _, _, rfl, t2, _, _, rfl, t3, rfl⟩ := g
    obtain ⟨y0, rfl, _⟩ := typed_int Go.Proofs.Try.underlying3 t0
    obtain ⟨y1, rfl, _⟩ := typed_int Go.Proofs.Try.underlying3 t1
    obtain ⟨y2, rfl, _⟩ := typed_int Go.Proofs.Try.underlying3 t2
    obtain ⟨m3, xs3, hm3, rfl, hx3, hw3, hl3⟩ := typed_slice Go.Proofs.Try.underlying72 t3
    obtain ⟨y3, rfl, hy3⟩ := rows_of (f := (Cond.enc false)) (Q := Cond.fits) (fun x hx => ih m3 (by omega) x (hx3 x hx))
    have hb3 : 1 ≤ Program.bytesOf Go.Proofs.Try.prog 74 := of_decide_eq_true (by kernel_rfl)
    have hf3 : FitL Cond.fits y3 := ⟨by
      simp -implicitDefEqProofs only [List.length_map] at hw3
      have h1 := Nat.mul_le_mul_left y3.length hb3
      unfold reachBytes at hw3
      omega, hy3⟩
    refine ⟨⟨y0, y1, y2, y3⟩, ?_, (Cond.fits_eq _).2 hf3⟩
    rw [enc_Cond]; rfl
theorem shape_76 (n : Nat) (a : AV) (h : Typed Go.Proofs.Try.prog n 76 a) : ∃ x : Rule, a = x.enc false ∧ x.fits := by
  obtain ⟨m, bs, hm, rfl, g⟩ := typed_struct Go.Proofs.Try.underlying76 h
  simp -implicitDefEqProofs only [List.map_cons, List.map_nil, each_cons, each_nil] at g
  obtain ⟨_, _, rfl, t0, _, _, rfl, t1, _, _, rfl, t2, _, _, rfl, t3, rfl⟩ := g
  obtain ⟨y0, rfl, _⟩ := typed_int Go.Proofs.Try.underlying3 t0
  obtain ⟨y1, rfl, _⟩ := typed_int Go.Proofs.Try.underlying3 t1
  obtain ⟨y2, rfl, _⟩ := typed_int Go.Proofs.Try.underlying3 t2
  obtain ⟨y3, rfl, hf3⟩ := shape_74 _ _ t3
  refine ⟨⟨y0, y1, y2, y3⟩, ?_, hf3⟩
  first | rfl | (simp -implicitDefEqProofs only [enc_Cond, enc_Rule]; rfl)
theorem shape_68 (n : Nat) (a : AV) (h : Typed Go.Proofs.Try.prog n 68 a) : ∃ x : Policy, a = x.enc false ∧ x.fits := by
  obtain ⟨m, bs, hm, rfl, g⟩ := typed_struct Go.Proofs.Try.underlying68 h
  simp -implicitDefEqProofs only [List.map_cons, List.map_nil, each_cons, each_nil] at g
  obtain ⟨_, _, rfl, t0, _, _, rfl, t1, rfl⟩ := g
  obtain ⟨y0, rfl, _⟩ := typed_int Go.Proofs.Try.underlying3 t0
  obtain ⟨m1, xs1, hm1, rfl, hx1, hw1, hl1⟩ := typed_slice Go.Proofs.Try.underlying42 t1
  obtain ⟨y1, rfl, hy1⟩ := rows_of (f := (Rule.enc false)) (Q := Rule.fits) (fun x hx => shape_76 _ _ (hx1 x hx))
  have hb1 : 1 ≤ Program.bytesOf Go.Proofs.Try.prog 76 := of_decide_eq_true (by kernel_rfl)
  have hf1 : FitL Rule.fits y1 := ⟨by
    simp -implicitDefEqProofs only [List.length_map] at hw1
    have h1 := Nat.mul_le_mul_left y1.length hb1
    unfold reachBytes at hw1
    omega, hy1⟩
  refine ⟨⟨y0, y1⟩, ?_, hf1⟩
  first | rfl | (simp -implicitDefEqProofs only [enc_Policy]; rfl)
theorem shape_70 (n : Nat) (a : AV) (h : Typed Go.Proofs.Try.prog n 70 a) : ∃ x : Epoch, a = x.enc false ∧ x.fits := by
  obtain ⟨m, bs, hm, rfl, g⟩ := typed_struct Go.Proofs.Try.underlying70 h
  simp -implicitDefEqProofs only [List.map_cons, List.map_nil, each_cons, each_nil] at g
  obtain ⟨_, _, rfl, t0, _, _, rfl, t1, _, _, rfl, t2, _, _, rfl, t3, rfl⟩ := g
  obtain ⟨y0, rfl, _⟩ := typed_int Go.Proofs.Try.underlying3 t0
  obtain ⟨y1, rfl, _⟩ := typed_int Go.Proofs.Try.underlying3 t1
  obtain ⟨m2, xs2, hm2, rfl, hx2, hw2, hl2⟩ := typed_slice Go.Proofs.Try.underlying41 t2
  obtain ⟨y2, rfl, hy2⟩ := rows_of (f := (Includes.enc false)) (Q := (fun _ => True)) (fun x hx => by obtain ⟨z, hz⟩ := shape_81 _ _ (hx2 x hx); exact ⟨z, hz, trivial⟩)
  have hb2 : 1 ≤ Program.bytesOf Go.Proofs.Try.prog 81 := of_decide_eq_true (by kernel_rfl)
  have hf2 : FitL (fun _ => True) y2 := ⟨by
    simp -implicitDefEqProofs only [List.length_map] at hw2
    have h1 := Nat.mul_le_mul_left y2.length hb2
    unfold reachBytes at hw2
    omega, hy2⟩
  obtain ⟨y3, rfl, hf3⟩ := shape_68 _ _ t3
  refine ⟨⟨y0, y1, y2, y3⟩, ?_, hf2, hf3⟩
  first | rfl | (simp -implicitDefEqProofs only [enc_Epoch, enc_Policy]; rfl)
theorem shape_40 (n : Nat) (a : AV) (h : Typed Go.Proofs.Try.prog n 40 a) : ∃ y : List Epoch, a = .sl false (y.map (Epoch.enc false)) ∧ FitL Epoch.fits y := by
  obtain ⟨m1, xs1, hm1, rfl, hx1, hw1, hl1⟩ := typed_slice Go.Proofs.Try.underlying40 h
  obtain ⟨y1, rfl, hy1⟩ := rows_of (f := (Epoch.enc false)) (Q := Epoch.fits) (fun x hx => shape_70 _ _ (hx1 x hx))
  have hb1 : 1 ≤ Program.bytesOf Go.Proofs.Try.prog 70 := of_decide_eq_true (by kernel_rfl)
  exact ⟨y1, rfl, by
    simp -implicitDefEqProofs only [List.length_map] at hw1
    have h1 := Nat.mul_le_mul_left y1.length hb1
    unfold reachBytes at hw1
    omega, hy1⟩
theorem shape_41 (n : Nat) (a : AV) (h : Typed Go.Proofs.Try.prog n 41 a) : ∃ y : List Includes, a = .sl false (y.map (Includes.enc false)) ∧ FitL (fun _ => True) y := by
  obtain ⟨m1, xs1, hm1, rfl, hx1, hw1, hl1⟩ := typed_slice Go.Proofs.Try.underlying41 h
  obtain ⟨y1, rfl, hy1⟩ := rows_of (f := (Includes.enc false)) (Q := (fun _ => True)) (fun x hx => by obtain ⟨z, hz⟩ := shape_81 _ _ (hx1 x hx); exact ⟨z, hz, trivial⟩)
  have hb1 : 1 ≤ Program.bytesOf Go.Proofs.Try.prog 81 := of_decide_eq_true (by kernel_rfl)
  exact ⟨y1, rfl, by
    simp -implicitDefEqProofs only [List.length_map] at hw1
    have h1 := Nat.mul_le_mul_left y1.length hb1
    unfold reachBytes at hw1
    omega, hy1⟩
theorem shape_42 (n : Nat) (a : AV) (h : Typed Go.Proofs.Try.prog n 42 a) : ∃ y : List Rule, a = .sl false (y.map (Rule.enc false)) ∧ FitL Rule.fits y := by
  obtain ⟨m1, xs1, hm1, rfl, hx1, hw1, hl1⟩ := typed_slice Go.Proofs.Try.underlying42 h
  obtain ⟨y1, rfl, hy1⟩ := rows_of (f := (Rule.enc false)) (Q := Rule.fits) (fun x hx => shape_76 _ _ (hx1 x hx))
  have hb1 : 1 ≤ Program.bytesOf Go.Proofs.Try.prog 76 := of_decide_eq_true (by kernel_rfl)
  exact ⟨y1, rfl, by
    simp -implicitDefEqProofs only [List.length_map] at hw1
    have h1 := Nat.mul_le_mul_left y1.length hb1
    unfold reachBytes at hw1
    omega, hy1⟩
theorem shape_72 (n : Nat) (a : AV) (h : Typed Go.Proofs.Try.prog n 72 a) : ∃ y : List Cond, a = .sl false (y.map (Cond.enc false)) ∧ FitL Cond.fits y := by
  obtain ⟨m1, xs1, hm1, rfl, hx1, hw1, hl1⟩ := typed_slice Go.Proofs.Try.underlying72 h
  obtain ⟨y1, rfl, hy1⟩ := rows_of (f := (Cond.enc false)) (Q := Cond.fits) (fun x hx => shape_74 _ _ (hx1 x hx))
  have hb1 : 1 ≤ Program.bytesOf Go.Proofs.Try.prog 74 := of_decide_eq_true (by kernel_rfl)
  exact ⟨y1, rfl, by
    simp -implicitDefEqProofs only [List.length_map] at hw1
    have h1 := Nat.mul_le_mul_left y1.length hb1
    unfold reachBytes at hw1
    omega, hy1⟩
end Go.Proofs.Ytaoemmefjakjnaa.Flat
