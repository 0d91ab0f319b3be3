/-
What is handed: counted.
-/
import Derived.Test.YtofkhbmdhahgpaaFlatCF
import Derived.Test.YtofkhbmdhahgpaaEqD
set_option linter.unusedVariables false
set_option linter.unusedSimpArgs false
set_option maxRecDepth 10000
namespace Go.Proofs.Ytofkhbmdhahgpaa.Flat
theorem r_laws_szChoiceS {fl : Bool} (k : Nat) (s : List Choice) (hk : 281474976710656 + 1 ≤ k) (hf : FitL (fun _ => True) s) (m : Int) (hm : -1 ≤ m) (hm2 : m ≤ 1048576) :
    run E noExt k 36 [.sl fl (s.map (Choice.enc fl)), .int .i64 m] [] = some (.int .i64 (left m (s.length)), []) := by
  obtain ⟨k, rfl⟩ : ∃ j, k = j + 1 := ⟨k - 1, by omega⟩
  rw [run_succ rfl rfl, body_eq (nt := 12) (fn := Go.Proofs.Try.f36) (by kernel_rfl) rfl rfl rfl rfl rfl rfl rfl rfl]
  have hs : s.length ≤ 140737488355328 := hf.1
  have hw : IntKind.i64.wrap (m - (s.length : Int)) = m - s.length := IntWalk.i64_in _ (by omega)

  simp -implicitDefEqProofs only [QS, QN, Go.Proofs.Try.f36, hw, ifEv_bool, gate_bool, gateP_bool, gateQ_bool, pick_bool, SN, evCutRow, Int.reduceToNat, id_eq, Int.reduceBEq, Int.reduceLE, Int.reduceLT, SS, TIS, MDS, wanted, numbered, plainC, plainS, evEq, eqK, evBox, evAlloc, evStore, evLoad, evFieldAddr, behind, takeVal, AV.cells, AV.isCell, ofCells, ofCell, Value.cells, Nat.reduceAdd, Nat.reduceEqDiff, Nat.reduceLT, Nat.reduceLeDiff, Nat.reduceMul, Nat.reduceSub, reduceIte]
  repeat' (split <;> (rename_i h; (try simp -implicitDefEqProofs only [Bool.not_eq_true', Bool.not_eq_false', decide_eq_true_eq, decide_eq_false_iff_not] at h); (try simp -implicitDefEqProofs only [QS, QN, *, hw, ifEv_bool, gate_bool, gateP_bool, gateQ_bool, pick_bool, SN, evCutRow, Int.reduceToNat, id_eq, Int.reduceBEq, Int.reduceLE, Int.reduceLT, SS, TIS, MDS, wanted, numbered, plainC, plainS, evEq, eqK, evBox, evAlloc, evStore, evLoad, evFieldAddr, behind, takeVal, AV.cells, AV.isCell, ofCells, ofCell, Value.cells, Nat.reduceAdd, Nat.reduceEqDiff, Nat.reduceLT, Nat.reduceLeDiff, Nat.reduceMul, Nat.reduceSub, reduceIte])))
  · rw [left_gt (by omega)]
  · rw [left_le (by omega)]
theorem r_laws_szDiagram {fl : Bool} (k : Nat) (x : Diagram) (hk : 281474976710656 + 4 * x.w + 3 ≤ k) (hf : x.fits) (m : Int) (hm : -1 ≤ m) (hm2 : m ≤ 1048576) :
    run E noExt k 14 [x.enc fl, .int .i64 m] [] = some (.int .i64 (left m x.w), []) := by
  obtain ⟨k, rfl⟩ : ∃ j, k = j + 1 := ⟨k - 1, by omega⟩
  rw [run_succ rfl rfl, body_eq (nt := 12) (fn := Go.Proofs.Try.f14) (by kernel_rfl) rfl rfl rfl rfl rfl rfl rfl rfl]
  unfold Diagram.w at hk ⊢
  unfold Diagram.fits at hf
  have c0 := r_laws_szChoiceS (fl := fl) k x.nodes (by omega) (hf) (m) (hm) (hm2)
  simp -implicitDefEqProofs only [QS, QN, enc_Diagram, Go.Proofs.Try.f14, c0, ifEv_bool, SN, evCutRow, Int.reduceToNat, id_eq, Int.reduceBEq, Int.reduceLE, Int.reduceLT, SS, TIS, MDS, wanted, numbered, plainC, plainS, evEq, eqK, evBox, evAlloc, evStore, evLoad, evFieldAddr, behind, takeVal, AV.cells, AV.isCell, ofCells, ofCell, Value.cells, Nat.reduceAdd, Nat.reduceEqDiff, Nat.reduceLT, Nat.reduceLeDiff, Nat.reduceMul, Nat.reduceSub, reduceIte]
  split
  · rename_i h
    have h' := of_decide_eq_true h
    simp -implicitDefEqProofs only [QS, h, SS, TIS, MDS, wanted, numbered, plainC, plainS, evEq, eqK, evBox, evAlloc, evStore, evLoad, evFieldAddr, behind, takeVal, AV.cells, AV.isCell, ofCells, ofCell, Value.cells, Nat.reduceAdd, Nat.reduceEqDiff, Nat.reduceLT, Nat.reduceLeDiff, Nat.reduceMul, Nat.reduceSub, reduceIte]
    have hlo := left_lo (m := 0) hm
    congr 3
    unfold left at h' ⊢
    split at h' <;> split <;> omega
  · rename_i h
    simp -implicitDefEqProofs only [QS, QN, h, c0, ifEv_bool, SN, evCutRow, Int.reduceToNat, id_eq, Int.reduceBEq, Int.reduceLE, Int.reduceLT, SS, TIS, MDS, wanted, numbered, plainC, plainS, evEq, eqK, evBox, evAlloc, evStore, evLoad, evFieldAddr, behind, takeVal, AV.cells, AV.isCell, ofCells, ofCell, Value.cells, Nat.reduceAdd, Nat.reduceEqDiff, Nat.reduceLT, Nat.reduceLeDiff, Nat.reduceMul, Nat.reduceSub, reduceIte]
    try simp -implicitDefEqProofs only [left_left hm, Nat.add_assoc]
end Go.Proofs.Ytofkhbmdhahgpaa.Flat
