/-
The law of SameQuestion: it answers true, whatever it is handed.
-/
import Derived.Test.YtgckhjcfcandmaaRows
import Derived.Test.YtgckhjcfcandmaaFlatR1C
import Derived.WalkKit
import Derived.ProofKit
import Derived.OpenShut
import Derived.ShutString
import Derived.ChangeOld
import Derived.Below
import Derived.SizedLaws
import Derived.Carry
set_option linter.unusedVariables false
set_option linter.unusedSimpArgs false
namespace Go.Proofs.Ytgckhjcfcandmaa.fnExactSameQuestion
open Go.ChangeShapes Go.WideShapes Go.ChangeAt Go.RowKit Flat
theorem own : ownKnob Try.prog.godebug = none := by kernel_rfl
theorem laidOut : laidOutB Try.prog = true := by kernel_rfl
theorem shape0 (a : AV) (h : Typed Try.prog 9 29 a) : ∃ x0_0 x0_1 x0_2 x0_3 x0_4 x0_5, a = .agg [.int .i64 x0_0, .int .i64 x0_1, .int .i64 x0_2, .int .i64 x0_3, .int .i64 x0_4, .int .i64 x0_5] := by
  rw [typed_struct Try.underlying29] at h
  obtain ⟨bs, rfl, h⟩ := h
  simp only [List.map_cons, List.map_nil, each_cons, each_nil, typed_int Try.underlying3] at h
  obtain ⟨_, _, rfl, ⟨y0, rfl, _⟩, _, _, rfl, ⟨y1, rfl, _⟩, _, _, rfl, ⟨y2, rfl, _⟩, _, _, rfl, ⟨y3, rfl, _⟩, _, _, rfl, ⟨y4, rfl, _⟩, _, _, rfl, ⟨y5, rfl, _⟩, rfl⟩ := h
  exact ⟨y0, y1, y2, y3, y4, y5, rfl⟩
theorem shape1 (a : AV) (h : Typed Try.prog 9 29 a) : ∃ x1_0 x1_1 x1_2 x1_3 x1_4 x1_5, a = .agg [.int .i64 x1_0, .int .i64 x1_1, .int .i64 x1_2, .int .i64 x1_3, .int .i64 x1_4, .int .i64 x1_5] := by
  rw [typed_struct Try.underlying29] at h
  obtain ⟨bs, rfl, h⟩ := h
  simp only [List.map_cons, List.map_nil, each_cons, each_nil, typed_int Try.underlying3] at h
  obtain ⟨_, _, rfl, ⟨y0, rfl, _⟩, _, _, rfl, ⟨y1, rfl, _⟩, _, _, rfl, ⟨y2, rfl, _⟩, _, _, rfl, ⟨y3, rfl, _⟩, _, _, rfl, ⟨y4, rfl, _⟩, _, _, rfl, ⟨y5, rfl, _⟩, rfl⟩ := h
  exact ⟨y0, y1, y2, y3, y4, y5, rfl⟩
set_option maxRecDepth 100000 in
theorem lifted (os : Os) (started : os.Started) (H : Type) (enc : TypeId × Value → H) :
    ReturnsInHanded {} Try.checked os 4 .any (Rows.fnExactSameQuestionSpec.pre6 enc Try.prog Try.f4 Rows.fnExactSameQuestionRow.domain false) (Rows.fnExactSameQuestionSpec.post enc Try.prog Try.f4 false true false false) := by
  refine returnsInHanded_of_change_sized (C := Try.checked) own started (by kernel_rfl) Try.func4
    (ChangeSpec.witness6 (enc := enc) (C := Try.checked) false ⟨#[], #[.agg #[.int .i64 0, .int .i64 0, .int .i64 0, .int .i64 0, .int .i64 0, .int .i64 0], .agg #[.int .i64 0, .int .i64 0, .int .i64 0, .int .i64 0, .int .i64 0, .int .i64 0]], []⟩ 8 (by kernel_rfl) (by kernel_rfl) (by kernel_rfl) (by kernel_rfl)) ?_
  intro W base args ds gs before hval0 hW hcnd hsz0 _
  have hsz : (DataW.weightsEach Try.prog (Try.f4.params.toList ++ Rows.fnExactSameQuestionSpec.plain.varTypes Try.prog) (ds ++ gs)).all (· ≤ reachBytes) = true := hsz0
  have hval : ∀ (j : Nat) t v, Try.f4.params[j]? = some t → args[j]? = some v → Value.okWide Try.prog W .any base t v := hval0
  have hW' := hW
  obtain ⟨p, q, hA0, hV, rfl, hfz, hnd⟩ := hW
  have hA : DataW.TrodAll enc Try.prog W 0 (fun _ => true) true Try.f4.params.toList args.toList ds p := hA0
  rw [Try.params4] at hA hval hsz
  obtain ⟨v0, vs0, d0, ds0, p0, q0, hargs, rfl, rfl, h0, r0⟩ := trodAll_cons hA
  obtain ⟨v1, vs1, d1, ds1, p1, q1, rfl, rfl, rfl, h1, r1⟩ := trodAll_cons r0
  obtain ⟨rfl, rfl, rfl⟩ := trodAll_nil r1
  obtain rfl : args = #[v0, v1] := by cases args; simp_all
  obtain ⟨rfl, rfl⟩ := trodVars_none hV
  have lt0 : ∀ x ∈ p0, x.block < W.heap.size := by obtain ⟨m, hm⟩ := h0; exact DataW.trod_lt m _ _ _ hm
  obtain ⟨a0, ty0, ro0⟩ := handed (n := 9) (P := Try.prog) (by kernel_rfl) (hval 0 29 v0 rfl rfl) h0 (weights_each hsz 0 29 d0 rfl rfl)
  obtain ⟨x0_0, x0_1, x0_2, x0_3, x0_4, x0_5, rfl⟩ := shape0 a0 ty0
  have lt1 : ∀ x ∈ p1, x.block < W.heap.size := by obtain ⟨m, hm⟩ := h1; exact DataW.trod_lt m _ _ _ hm
  obtain ⟨a1, ty1, ro1⟩ := handed (n := 9) (P := Try.prog) (by kernel_rfl) (hval 1 29 v1 rfl rfl) h1 (weights_each hsz 1 29 d1 rfl rfl)
  obtain ⟨x1_0, x1_1, x1_2, x1_3, x1_4, x1_5, rfl⟩ := shape1 a1 ty1
  refine (law_ok mixed sound hkill hmd (ext := noExt) (fun f g hg => by simp [noExt] at hg) (r4 (k := 281474976710656 + 3) (Nat.le_refl _) x0_0 x0_1 x0_2 x0_3 x0_4 x0_5 x1_0 x1_1 x1_2 x1_3 x1_4 x1_5) (args := #[v0, v1]) (W := W) rfl (fun j hj => by
    rcases j with _ | _ | j
    · exact ro0
    · exact ro1
    · simp at hj; omega)).mono fun e W' ⟨he, bel⟩ => ?_
  subst he
  exact ⟨_, rfl, _, _, _, [], _, [], hW', trodAll_mk1 (shut_bool Try.underlying4 _), (trodAll_cons_mk (Below.trod laidOut (by kernel_rfl) (of_decide_eq_true (by kernel_rfl)) h0 bel lt0) (trodAll_cons_mk (Below.trod laidOut (by kernel_rfl) (of_decide_eq_true (by kernel_rfl)) h1 bel lt1) trodAll_mk0)), rfl, bel.frame _, fun h => by cases h⟩
theorem over : Rows.fnExactSameQuestionRow.holds Try.pinned (OpenSpec.ofChange Rows.fnExactSameQuestionSpec) :=
  OpenClaim.holds_of_wide 4 Try.f4 rfl rfl rfl rfl rfl rfl rfl ⟨rfl, rfl, rfl, rfl, rfl⟩ rfl rfl rfl rfl rfl (by kernel_rfl) Try.func4 (by kernel_rfl)
    (of_decide_eq_true (by kernel_rfl)) (by unfold Func.isWrapper; first | (rw [if_pos (by decide +kernel)]; kernel_rfl) | (rw [if_neg (by decide +kernel)]; exact ⟨rfl, rfl⟩))
    (fun os started H enc _ => lifted os started H enc)
theorem proved : Rows.FnExactSameQuestionSaid := over
#print axioms proved
end Go.Proofs.Ytgckhjcfcandmaa.fnExactSameQuestion
namespace Go.Proofs.Ytgckhjcfcandmaa
/-- The row, under a short name, for the claim. -/
theorem fnExactSameQuestion_holds : Rows.FnExactSameQuestionSaid := fnExactSameQuestion.proved
end Go.Proofs.Ytgckhjcfcandmaa
