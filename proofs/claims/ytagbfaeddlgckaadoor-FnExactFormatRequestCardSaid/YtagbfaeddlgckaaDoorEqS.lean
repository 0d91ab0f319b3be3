/-
What is handed to a law, told as lists and trees.
-/
import Derived.Test.YtagbfaeddlgckaaDoorFlatCE
import Derived.Test.YtagbfaeddlgckaaDoorEqD
import Derived.Test.YtagbfaeddlgckaaDoorFlatM4
set_option linter.unusedVariables false
set_option linter.unusedSimpArgs false
set_option maxRecDepth 10000
namespace Go.Proofs.YtagbfaeddlgckaaDoor.Flat
theorem shape_23 (n : Nat) (a : AV) (h : Typed Go.Proofs.Tryd.prog n 23 a) : ∃ x : Request, a = x.enc false := by
  obtain ⟨m, bs, hm, rfl, g⟩ := typed_struct Go.Proofs.Tryd.underlying23 h
  simp -implicitDefEqProofs only [List.map_cons, List.map_nil, each_cons, each_nil] at g
  obtain ⟨_, _, rfl, t0, _, _, rfl, t1, _, _, rfl, t2, _, _, rfl, t3, _, _, rfl, t4, _, _, rfl, t5, rfl⟩ := g
  obtain ⟨y0, rfl, _⟩ := typed_int Go.Proofs.Tryd.underlying3 t0
  obtain ⟨y1, rfl, _⟩ := typed_int Go.Proofs.Tryd.underlying3 t1
  obtain ⟨y2, rfl, _⟩ := typed_int Go.Proofs.Tryd.underlying3 t2
  obtain ⟨y3, rfl, _⟩ := typed_int Go.Proofs.Tryd.underlying3 t3
  obtain ⟨y4, rfl, _⟩ := typed_int Go.Proofs.Tryd.underlying3 t4
  obtain ⟨y5, rfl, _⟩ := typed_int Go.Proofs.Tryd.underlying3 t5
  refine ⟨⟨y0, y1, y2, y3, y4, y5⟩, ?_⟩
  first | rfl | (simp -implicitDefEqProofs only [enc_Request]; rfl)
end Go.Proofs.YtagbfaeddlgckaaDoor.Flat
