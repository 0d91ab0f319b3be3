/-
Which rules hold, and what a policy decides.
-/
import Derived.Test.YtfljmpjckeopgaaGreatEqV
import Derived.Test.YtfljmpjckeopgaaGreatEqP
set_option linter.unusedVariables false
set_option linter.unusedSimpArgs false
set_option maxRecDepth 10000
namespace Go.Proofs.YtfljmpjckeopgaaGreat.Flat
def isRequest (q : Request) : Bool := hasKind q.person 1 && (hasKind q.device 2 && (hasKind q.program 3 && (hasKind q.object 4 && (inR q.action 0 5 && isT q.now))))
theorem r_spec_IsRequest {fl : Bool} (k : Nat) (hk : 281474976710656 + 5 ≤ k) (q : Request) : run E noExt k 64 [q.enc fl] [] = some (.bool (isRequest q), []) := by
  obtain ⟨k, rfl⟩ : ∃ j, k = j + 1 := ⟨k - 1, by omega⟩
  rw [run_succ rfl rfl, body_eq (nt := 31) (fn := Go.Proofs.Tryz.f64) (by kernel_rfl) rfl rfl rfl rfl rfl rfl rfl rfl]
  have c_spec_l1In := r_spec_l1In k (by omega)
  have c_spec_HasKind := r_spec_HasKind k (by omega)
  have c_spec_IsTime := r_spec_IsTime k (by omega)
  simp -implicitDefEqProofs only [QS, QN, Go.Proofs.Tryz.f64, c_spec_l1In, c_spec_HasKind, c_spec_IsTime, enc_Request, ifEv_bool, gate_bool, gateP_bool, gateQ_bool, pick_bool, SN, evCutRow, Int.reduceToNat, id_eq, Int.reduceBEq, Int.reduceLE, Int.reduceLT, SS, TIS, MDS, wanted, numbered, plainC, plainS, evEq, eqK, evBox, evAlloc, evStore, evLoad, evFieldAddr, behind, takeVal, AV.cells, AV.isCell, ofCells, ofCell, Value.cells, Nat.reduceAdd, Nat.reduceEqDiff, Nat.reduceLT, Nat.reduceLeDiff, Nat.reduceMul, Nat.reduceSub, reduceIte]
  repeat' (split <;> (rename_i h; (try simp -implicitDefEqProofs only [Bool.not_eq_true', Bool.not_eq_false', decide_eq_true_eq, decide_eq_false_iff_not] at h); (try simp -implicitDefEqProofs only [QS, QN, *, c_spec_l1In, c_spec_HasKind, c_spec_IsTime, enc_Request, ifEv_bool, gate_bool, gateP_bool, gateQ_bool, pick_bool, SN, evCutRow, Int.reduceToNat, id_eq, Int.reduceBEq, Int.reduceLE, Int.reduceLT, SS, TIS, MDS, wanted, numbered, plainC, plainS, evEq, eqK, evBox, evAlloc, evStore, evLoad, evFieldAddr, behind, takeVal, AV.cells, AV.isCell, ofCells, ofCell, Value.cells, Nat.reduceAdd, Nat.reduceEqDiff, Nat.reduceLT, Nat.reduceLeDiff, Nat.reduceMul, Nat.reduceSub, reduceIte])))
  all_goals simp -implicitDefEqProofs only [isRequest, *, Bool.true_and, Bool.false_and, Bool.and_true, Bool.and_false]
theorem r_impl_IsRequest {fl : Bool} (k : Nat) (hk : 281474976710656 + 5 ≤ k) (q : Request) : run E noExt k 69 [q.enc fl] [] = some (.bool (isRequest q), []) := by
  obtain ⟨k, rfl⟩ : ∃ j, k = j + 1 := ⟨k - 1, by omega⟩
  rw [run_succ rfl rfl, body_eq (nt := 31) (fn := Go.Proofs.Tryz.f69) (by kernel_rfl) rfl rfl rfl rfl rfl rfl rfl rfl]
  have c_impl_InRange := r_impl_InRange k (by omega)
  have c_impl_HasKind := r_impl_HasKind k (by omega)
  have c_impl_IsTime := r_impl_IsTime k (by omega)
  simp -implicitDefEqProofs only [QS, QN, Go.Proofs.Tryz.f69, c_impl_InRange, c_impl_HasKind, c_impl_IsTime, enc_Request, ifEv_bool, gate_bool, gateP_bool, gateQ_bool, pick_bool, SN, evCutRow, Int.reduceToNat, id_eq, Int.reduceBEq, Int.reduceLE, Int.reduceLT, SS, TIS, MDS, wanted, numbered, plainC, plainS, evEq, eqK, evBox, evAlloc, evStore, evLoad, evFieldAddr, behind, takeVal, AV.cells, AV.isCell, ofCells, ofCell, Value.cells, Nat.reduceAdd, Nat.reduceEqDiff, Nat.reduceLT, Nat.reduceLeDiff, Nat.reduceMul, Nat.reduceSub, reduceIte]
  repeat' (split <;> (rename_i h; (try simp -implicitDefEqProofs only [Bool.not_eq_true', Bool.not_eq_false', decide_eq_true_eq, decide_eq_false_iff_not] at h); (try simp -implicitDefEqProofs only [QS, QN, *, c_impl_InRange, c_impl_HasKind, c_impl_IsTime, enc_Request, ifEv_bool, gate_bool, gateP_bool, gateQ_bool, pick_bool, SN, evCutRow, Int.reduceToNat, id_eq, Int.reduceBEq, Int.reduceLE, Int.reduceLT, SS, TIS, MDS, wanted, numbered, plainC, plainS, evEq, eqK, evBox, evAlloc, evStore, evLoad, evFieldAddr, behind, takeVal, AV.cells, AV.isCell, ofCells, ofCell, Value.cells, Nat.reduceAdd, Nat.reduceEqDiff, Nat.reduceLT, Nat.reduceLeDiff, Nat.reduceMul, Nat.reduceSub, reduceIte])))
  all_goals simp -implicitDefEqProofs only [isRequest, *, Bool.true_and, Bool.false_and, Bool.and_true, Bool.and_false]
end Go.Proofs.YtfljmpjckeopgaaGreat.Flat
