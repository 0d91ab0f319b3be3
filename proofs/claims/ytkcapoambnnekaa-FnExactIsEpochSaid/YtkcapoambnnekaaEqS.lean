/-
What is handed to a law, told as lists and trees.
-/
import Derived.Test.YtkcapoambnnekaaFlatCE
import Derived.Test.YtkcapoambnnekaaEqD
import Derived.Test.YtkcapoambnnekaaFlatM4
set_option linter.unusedVariables false
set_option linter.unusedSimpArgs false
set_option maxRecDepth 10000
namespace Go.Proofs.Ytkcapoambnnekaa.Flat
theorem shape_34 (n : Nat) (a : AV) (h : Typed Go.Proofs.Try.prog n 34 a) : ∃ x : Cond, a = x.enc false ∧ x.fits := by
  induction n using Nat.strongRecOn generalizing a with
  | ind n ih =>
    obtain ⟨m, bs, hm, rfl, g⟩ := typed_struct Go.Proofs.Try.underlying34 h
    simp -implicitDefEqProofs only [List.map_cons, List.map_nil, each_cons, each_nil] at g
    obtain ⟨_, _, rfl, t0, _, _, rfl, t1, _, _, rfl, t2, _, _, rfl, t3, rfl⟩ := g
    obtain ⟨y0, rfl, _⟩ := typed_int Go.Proofs.Try.underlying3 t0
    obtain ⟨y1, rfl, _⟩ := typed_int Go.Proofs.Try.underlying3 t1
    obtain ⟨y2, rfl, _⟩ := typed_int Go.Proofs.Try.underlying3 t2
    obtain ⟨m3, xs3, hm3, rfl, hx3, hw3, hl3⟩ := typed_slice Go.Proofs.Try.underlying32 t3
    obtain ⟨y3, rfl, hy3⟩ := rows_of (f := (Cond.enc false)) (Q := Cond.fits) (fun x hx => ih m3 (by omega) x (hx3 x hx))
    have hb3 : 1 ≤ Program.bytesOf Go.Proofs.Try.prog 34 := of_decide_eq_true (by kernel_rfl)
    have hf3 : FitL Cond.fits y3 := ⟨by
      simp -implicitDefEqProofs only [List.length_map] at hw3
      have h1 := Nat.mul_le_mul_left y3.length hb3
      unfold reachBytes at hw3
      omega, hy3⟩
    refine ⟨⟨y0, y1, y2, y3⟩, ?_, (Cond.fits_eq _).2 hf3⟩
    rw [enc_Cond]; rfl
theorem shape_36 (n : Nat) (a : AV) (h : Typed Go.Proofs.Try.prog n 36 a) : ∃ x : Rule, a = x.enc false ∧ x.fits := by
  obtain ⟨m, bs, hm, rfl, g⟩ := typed_struct Go.Proofs.Try.underlying36 h
  simp -implicitDefEqProofs only [List.map_cons, List.map_nil, each_cons, each_nil] at g
  obtain ⟨_, _, rfl, t0, _, _, rfl, t1, _, _, rfl, t2, _, _, rfl, t3, rfl⟩ := g
  obtain ⟨y0, rfl, _⟩ := typed_int Go.Proofs.Try.underlying3 t0
  obtain ⟨y1, rfl, _⟩ := typed_int Go.Proofs.Try.underlying3 t1
  obtain ⟨y2, rfl, _⟩ := typed_int Go.Proofs.Try.underlying3 t2
  obtain ⟨y3, rfl, hf3⟩ := shape_34 _ _ t3
  refine ⟨⟨y0, y1, y2, y3⟩, ?_, hf3⟩
  first | rfl | (simp -implicitDefEqProofs only [enc_Cond, enc_Rule]; rfl)
theorem shape_24 (n : Nat) (a : AV) (h : Typed Go.Proofs.Try.prog n 24 a) : ∃ x : Policy, a = x.enc false ∧ x.fits := by
  obtain ⟨m, bs, hm, rfl, g⟩ := typed_struct Go.Proofs.Try.underlying24 h
  simp -implicitDefEqProofs only [List.map_cons, List.map_nil, each_cons, each_nil] at g
  obtain ⟨_, _, rfl, t0, _, _, rfl, t1, rfl⟩ := g
  obtain ⟨y0, rfl, _⟩ := typed_int Go.Proofs.Try.underlying3 t0
  obtain ⟨m1, xs1, hm1, rfl, hx1, hw1, hl1⟩ := typed_slice Go.Proofs.Try.underlying22 t1
  obtain ⟨y1, rfl, hy1⟩ := rows_of (f := (Rule.enc false)) (Q := Rule.fits) (fun x hx => shape_36 _ _ (hx1 x hx))
  have hb1 : 1 ≤ Program.bytesOf Go.Proofs.Try.prog 36 := of_decide_eq_true (by kernel_rfl)
  have hf1 : FitL Rule.fits y1 := ⟨by
    simp -implicitDefEqProofs only [List.length_map] at hw1
    have h1 := Nat.mul_le_mul_left y1.length hb1
    unfold reachBytes at hw1
    omega, hy1⟩
  refine ⟨⟨y0, y1⟩, ?_, hf1⟩
  first | rfl | (simp -implicitDefEqProofs only [enc_Policy]; rfl)
theorem shape_111 (n : Nat) (a : AV) (h : Typed Go.Proofs.Try.prog n 111 a) : ∃ x : Includes, a = x.enc false := by
  obtain ⟨m, bs, hm, rfl, g⟩ := typed_struct Go.Proofs.Try.underlying111 h
  simp -implicitDefEqProofs only [List.map_cons, List.map_nil, each_cons, each_nil] at g
  obtain ⟨_, _, rfl, t0, _, _, rfl, t1, rfl⟩ := g
  obtain ⟨y0, rfl, _⟩ := typed_int Go.Proofs.Try.underlying3 t0
  obtain ⟨y1, rfl, _⟩ := typed_int Go.Proofs.Try.underlying3 t1
  refine ⟨⟨y0, y1⟩, ?_⟩
  first | rfl | (simp -implicitDefEqProofs only [enc_Includes]; rfl)
theorem shape_63 (n : Nat) (a : AV) (h : Typed Go.Proofs.Try.prog n 63 a) : ∃ x : Epoch, a = x.enc false ∧ x.fits := by
  obtain ⟨m, bs, hm, rfl, g⟩ := typed_struct Go.Proofs.Try.underlying63 h
  simp -implicitDefEqProofs only [List.map_cons, List.map_nil, each_cons, each_nil] at g
  obtain ⟨_, _, rfl, t0, _, _, rfl, t1, _, _, rfl, t2, _, _, rfl, t3, rfl⟩ := g
  obtain ⟨y0, rfl, _⟩ := typed_int Go.Proofs.Try.underlying3 t0
  obtain ⟨y1, rfl, _⟩ := typed_int Go.Proofs.Try.underlying3 t1
  obtain ⟨m2, xs2, hm2, rfl, hx2, hw2, hl2⟩ := typed_slice Go.Proofs.Try.underlying61 t2
  obtain ⟨y2, rfl, hy2⟩ := rows_of (f := (Includes.enc false)) (Q := (fun _ => True)) (fun x hx => by obtain ⟨z, hz⟩ := shape_111 _ _ (hx2 x hx); exact ⟨z, hz, trivial⟩)
  have hb2 : 1 ≤ Program.bytesOf Go.Proofs.Try.prog 111 := of_decide_eq_true (by kernel_rfl)
  have hf2 : FitL (fun _ => True) y2 := ⟨by
    simp -implicitDefEqProofs only [List.length_map] at hw2
    have h1 := Nat.mul_le_mul_left y2.length hb2
    unfold reachBytes at hw2
    omega, hy2⟩
  obtain ⟨y3, rfl, hf3⟩ := shape_24 _ _ t3
  refine ⟨⟨y0, y1, y2, y3⟩, ?_, hf2, hf3⟩
  first | rfl | (simp -implicitDefEqProofs only [enc_Epoch, enc_Policy]; rfl)
theorem shape_22 (n : Nat) (a : AV) (h : Typed Go.Proofs.Try.prog n 22 a) : ∃ y : List Rule, a = .sl false (y.map (Rule.enc false)) ∧ FitL Rule.fits y := by
  obtain ⟨m1, xs1, hm1, rfl, hx1, hw1, hl1⟩ := typed_slice Go.Proofs.Try.underlying22 h
  obtain ⟨y1, rfl, hy1⟩ := rows_of (f := (Rule.enc false)) (Q := Rule.fits) (fun x hx => shape_36 _ _ (hx1 x hx))
  have hb1 : 1 ≤ Program.bytesOf Go.Proofs.Try.prog 36 := of_decide_eq_true (by kernel_rfl)
  exact ⟨y1, rfl, by
    simp -implicitDefEqProofs only [List.length_map] at hw1
    have h1 := Nat.mul_le_mul_left y1.length hb1
    unfold reachBytes at hw1
    omega, hy1⟩
theorem shape_32 (n : Nat) (a : AV) (h : Typed Go.Proofs.Try.prog n 32 a) : ∃ y : List Cond, a = .sl false (y.map (Cond.enc false)) ∧ FitL Cond.fits y := by
  obtain ⟨m1, xs1, hm1, rfl, hx1, hw1, hl1⟩ := typed_slice Go.Proofs.Try.underlying32 h
  obtain ⟨y1, rfl, hy1⟩ := rows_of (f := (Cond.enc false)) (Q := Cond.fits) (fun x hx => shape_34 _ _ (hx1 x hx))
  have hb1 : 1 ≤ Program.bytesOf Go.Proofs.Try.prog 34 := of_decide_eq_true (by kernel_rfl)
  exact ⟨y1, rfl, by
    simp -implicitDefEqProofs only [List.length_map] at hw1
    have h1 := Nat.mul_le_mul_left y1.length hb1
    unfold reachBytes at hw1
    omega, hy1⟩
theorem shape_47 (n : Nat) (a : AV) (h : Typed Go.Proofs.Try.prog n 47 a) : ∃ y : List Epoch, a = .sl false (y.map (Epoch.enc false)) ∧ FitL Epoch.fits y := by
  obtain ⟨m1, xs1, hm1, rfl, hx1, hw1, hl1⟩ := typed_slice Go.Proofs.Try.underlying47 h
  obtain ⟨y1, rfl, hy1⟩ := rows_of (f := (Epoch.enc false)) (Q := Epoch.fits) (fun x hx => shape_63 _ _ (hx1 x hx))
  have hb1 : 1 ≤ Program.bytesOf Go.Proofs.Try.prog 63 := of_decide_eq_true (by kernel_rfl)
  exact ⟨y1, rfl, by
    simp -implicitDefEqProofs only [List.length_map] at hw1
    have h1 := Nat.mul_le_mul_left y1.length hb1
    unfold reachBytes at hw1
    omega, hy1⟩
theorem shape_61 (n : Nat) (a : AV) (h : Typed Go.Proofs.Try.prog n 61 a) : ∃ y : List Includes, a = .sl false (y.map (Includes.enc false)) ∧ FitL (fun _ => True) y := by
  obtain ⟨m1, xs1, hm1, rfl, hx1, hw1, hl1⟩ := typed_slice Go.Proofs.Try.underlying61 h
  obtain ⟨y1, rfl, hy1⟩ := rows_of (f := (Includes.enc false)) (Q := (fun _ => True)) (fun x hx => by obtain ⟨z, hz⟩ := shape_111 _ _ (hx1 x hx); exact ⟨z, hz, trivial⟩)
  have hb1 : 1 ≤ Program.bytesOf Go.Proofs.Try.prog 111 := of_decide_eq_true (by kernel_rfl)
  exact ⟨y1, rfl, by
    simp -implicitDefEqProofs only [List.length_map] at hw1
    have h1 := Nat.mul_le_mul_left y1.length hb1
    unfold reachBytes at hw1
    omega, hy1⟩
end Go.Proofs.Ytkcapoambnnekaa.Flat
