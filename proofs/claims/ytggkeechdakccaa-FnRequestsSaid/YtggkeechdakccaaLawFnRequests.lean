/-
The law of FnRequests: it answers true, whatever it is handed.
-/
import Derived.Test.YtggkeechdakccaaRows
import Derived.Test.YtggkeechdakccaaEqS
import Derived.Test.YtggkeechdakccaaEqLQ
import Derived.Test.YtggkeechdakccaaEqX
import Derived.WalkKit
import Derived.ProofKit
import Derived.OpenShut
import Derived.ShutString
import Derived.ChangeOld
import Derived.Below
import Derived.SizedLaws
import Derived.Carry
set_option linter.unusedVariables false
set_option linter.unusedSimpArgs false
set_option maxRecDepth 10000
namespace Go.Proofs.Ytggkeechdakccaa.fnRequests
section
open Flat
theorem reckoned (x0 : List Int) (h0 : FitL (fun _ => True) x0) (k : Nat) (hk : 1152921504606846976 + 4 * ((x0.length)) + 60 ≤ k) : run E noExt k 3 [.sl false (x0.map (AV.int .u8))] [] = some (.bool true, []) := law_FnRequests x0 h0 k (by omega)
end
open Go.ChangeShapes Go.WideShapes Go.ChangeAt Go.RowKit Flat
theorem own : ownKnob Try.prog.godebug = none := by kernel_rfl
theorem laidOut : laidOutB Try.prog = true := by kernel_rfl
set_option maxRecDepth 100000 in
theorem lifted (os : Os) (started : os.Started) (H : Type) (enc : TypeId × Value → H) :
    ReturnsInHanded {} Try.checked os 3 .any (Rows.fnRequestsSpec.pre6 enc Try.prog Try.f3 Rows.fnRequestsRow.domain false) (Rows.fnRequestsSpec.post enc Try.prog Try.f3 false true false false) := by
  refine returnsInHanded_of_change_sized (C := Try.checked) own started (by kernel_rfl) Try.func3
    (ChangeSpec.witness6 (enc := enc) (C := Try.checked) false ⟨#[], #[.slice none 0 0], []⟩ 8 (by kernel_rfl) (by kernel_rfl) (by kernel_rfl) (by kernel_rfl)) ?_
  intro W base args ds gs before hval0 hW hcnd hsz0 _
  have hsz : (DataW.weightsEach Try.prog (Try.f3.params.toList ++ Rows.fnRequestsSpec.plain.varTypes Try.prog) (ds ++ gs)).all (· ≤ reachBytes) = true := hsz0
  have hval : ∀ (j : Nat) t v, Try.f3.params[j]? = some t → args[j]? = some v → Value.okWide Try.prog W .any base t v := hval0
  have hW' := hW
  obtain ⟨p, q, hA0, hV, rfl, hfz, hnd⟩ := hW
  have hA : DataW.TrodAll enc Try.prog W 0 (fun _ => true) true Try.f3.params.toList args.toList ds p := hA0
  rw [Try.params3] at hA hval hsz
  obtain ⟨v0, vs0, d0, ds0, p0, q0, hargs, rfl, rfl, h0, r0⟩ := trodAll_cons hA
  obtain ⟨rfl, rfl, rfl⟩ := trodAll_nil r0
  obtain rfl : args = #[v0] := by cases args; simp_all
  obtain ⟨rfl, rfl⟩ := trodVars_none hV
  have lt0 : ∀ x ∈ p0, x.block < W.heap.size := by obtain ⟨m, hm⟩ := h0; exact DataW.trod_lt m _ _ _ hm
  obtain ⟨n0, a0, ty0, ro0⟩ := handed (P := Try.prog) (ts := [22, 5]) (by kernel_rfl) (by kernel_rfl) (hval 0 22 v0 rfl rfl) h0 (weights_each hsz 0 22 d0 rfl rfl)
  obtain ⟨x0, rfl, fit0⟩ := shape_22 n0 a0 ty0
  refine (law_ok mixed sound (ext := noExt) hext (reckoned x0 fit0 _ (Nat.le_refl _)) (args := #[v0]) (W := W) rfl (fun j hj => by
    rcases j with _ | j
    · exact ro0
    · simp at hj)).mono fun e W' ⟨he, bel⟩ => ?_
  subst he
  exact ⟨_, rfl, _, _, _, [], _, [], hW', trodAll_mk1 (shut_bool Try.underlying4 _), (trodAll_cons_mk (Below.trod laidOut (by kernel_rfl) (of_decide_eq_true (by kernel_rfl)) h0 bel lt0) trodAll_mk0), rfl, bel.frame _, fun h => by cases h⟩
theorem over : Rows.fnRequestsRow.holds Try.pinned (OpenSpec.ofChange Rows.fnRequestsSpec) :=
  OpenClaim.holds_of_wide 3 Try.f3 rfl rfl rfl rfl rfl rfl rfl ⟨rfl, rfl, rfl, rfl, rfl⟩ rfl rfl rfl rfl rfl (by kernel_rfl) Try.func3 (by kernel_rfl)
    (of_decide_eq_true (by kernel_rfl)) (by unfold Func.isWrapper; first | (rw [if_pos (by decide +kernel)]; kernel_rfl) | (rw [if_neg (by decide +kernel)]; exact ⟨rfl, rfl⟩))
    (fun os started H enc _ => lifted os started H enc)
theorem proved : Rows.FnRequestsSaid := over
#print axioms proved
end Go.Proofs.Ytggkeechdakccaa.fnRequests
namespace Go.Proofs.Ytggkeechdakccaa
/-- The row, under a short name, for the claim. -/
theorem fnRequests_holds : Rows.FnRequestsSaid := fnRequests.proved
end Go.Proofs.Ytggkeechdakccaa
