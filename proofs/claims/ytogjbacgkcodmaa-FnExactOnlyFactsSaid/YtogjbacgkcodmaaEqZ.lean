/-
What is handed: counted.
-/
import Derived.Test.YtogjbacgkcodmaaFlatCF
import Derived.Test.YtogjbacgkcodmaaEqD
set_option linter.unusedVariables false
set_option linter.unusedSimpArgs false
set_option maxRecDepth 10000
namespace Go.Proofs.Ytogjbacgkcodmaa.Flat
theorem r_laws_szFactS {fl : Bool} (k : Nat) (s : List Fact) (hk : 281474976710656 + 1 ≤ k) (hf : FitL (fun _ => True) s) (m : Int) (hm : -1 ≤ m) (hm2 : m ≤ 1048576) :
    run E noExt k 33 [.sl fl (s.map (Fact.enc fl)), .int .i64 m] [] = some (.int .i64 (left m (s.length)), []) := by
  obtain ⟨k, rfl⟩ : ∃ j, k = j + 1 := ⟨k - 1, by omega⟩
  rw [run_succ rfl rfl, body_eq (nt := 12) (fn := Go.Proofs.Try.f33) (by kernel_rfl) rfl rfl rfl rfl rfl rfl rfl rfl]
  have hs : s.length ≤ 140737488355328 := hf.1
  have hw : IntKind.i64.wrap (m - (s.length : Int)) = m - s.length := IntWalk.i64_in _ (by omega)

  simp -implicitDefEqProofs only [QS, QN, Go.Proofs.Try.f33, hw, ifEv_bool, gate_bool, gateP_bool, gateQ_bool, pick_bool, SN, evCutRow, Int.reduceToNat, id_eq, Int.reduceBEq, Int.reduceLE, Int.reduceLT, SS, TIS, MDS, wanted, numbered, plainC, plainS, evEq, eqK, evBox, evAlloc, evStore, evLoad, evFieldAddr, behind, takeVal, AV.cells, AV.isCell, ofCells, ofCell, Value.cells, Nat.reduceAdd, Nat.reduceEqDiff, Nat.reduceLT, Nat.reduceLeDiff, Nat.reduceMul, Nat.reduceSub, reduceIte]
  repeat' (split <;> (rename_i h; (try simp -implicitDefEqProofs only [Bool.not_eq_true', Bool.not_eq_false', decide_eq_true_eq, decide_eq_false_iff_not] at h); (try simp -implicitDefEqProofs only [QS, QN, *, hw, ifEv_bool, gate_bool, gateP_bool, gateQ_bool, pick_bool, SN, evCutRow, Int.reduceToNat, id_eq, Int.reduceBEq, Int.reduceLE, Int.reduceLT, SS, TIS, MDS, wanted, numbered, plainC, plainS, evEq, eqK, evBox, evAlloc, evStore, evLoad, evFieldAddr, behind, takeVal, AV.cells, AV.isCell, ofCells, ofCell, Value.cells, Nat.reduceAdd, Nat.reduceEqDiff, Nat.reduceLT, Nat.reduceLeDiff, Nat.reduceMul, Nat.reduceSub, reduceIte])))
  · rw [left_gt (by omega)]
  · rw [left_le (by omega)]
end Go.Proofs.Ytogjbacgkcodmaa.Flat
