/-
The draws: conditions made of conditions.
-/
import Derived.Test.YtigfcbcnfppmcaaGreatEqDL
set_option linter.unusedVariables false
set_option linter.unusedSimpArgs false
set_option maxRecDepth 10000
namespace Go.Proofs.YtigfcbcnfppmcaaGreat.Flat
theorem r_spec_CondNot (k : Nat) (hk : 290271069732864 + 4 ≤ k) (x : Cond) (hx : x.w ≤ 1099511627776) :
    run E noExt k 74 [x.enc true] [] = some ((⟨7, 0, 0, [x]⟩ : Cond).dAV, []) := by
  have c1 := r_spec_l15Copy (fl := true) (k - 1) (by omega) x (by omega)
  unfold Cond.copyAV at c1
  have hsc := tscals_N x.args
  obtain ⟨k, rfl⟩ : ∃ j, k = j + 1 := ⟨k - 1, by omega⟩
  rw [run_succ rfl rfl, body_eq (nt := 7) (fn := Go.Proofs.Tryz.f74) (by kernel_rfl) rfl rfl rfl rfl rfl rfl rfl rfl]
  simp -implicitDefEqProofs only [Nat.add_sub_cancel, enc_Cond] at c1
  have hr : rowN 0 ([x].map (Cond.enc true)) = .own 0 false 28 4 [x.enc true] := rowN_ne (by simp)
  simp -implicitDefEqProofs only [Cond.dAV, hr]
  rcases Classical.em (x.args.map Cond.tencN = []) with h2 | h2
  · have h3 : x.args.map (Cond.enc true) = [] := by cases hx : x.args with | nil => rfl | cons c r => rw [hx] at h2; simp at h2
    rw [h2, h3] at c1
    simp -implicitDefEqProofs only [rowN_nil] at c1
    simp -implicitDefEqProofs only [QS, QN, QG, QO, enc_Cond, h3, Go.Proofs.Tryz.f74, c1, hsc, bne, SO, SH, frzO, frzE, AV.laid, AV.treeV, AV.treeC, St.laid, spent, AV.subs, AV.shut, AV.scal, AV.scals, evBuildSlice, elemsOf, zeroOK, evAppend, rowOf, noref, isRef, small, import_, AV.any, AV.anys, isPtr, finV, rename, noPtr, isBad, AV.isUndef, St.setRow, AV.shutV, rebuild, isAggV, evBuild, fillCells, evCutOwn, dedup, nodupB, idx, AV.rows, AV.rowss, AV.mapO, AV.mapOs, firstRegion, gc, keptBoxes, keptRows, renameB, AV.boxes, AV.boxess, SN, evCutRow, Int.reduceToNat, id_eq, Int.reduceBEq, Int.reduceLE, Int.reduceLT, SS, one_ne2, num_ne2, TIS, MDS, wanted, numbered, plainC, plainS, evEq, eqK, evBox, evAlloc, evStore, evLoad, evFieldAddr, behind, takeVal, AV.cells, AV.isCell, ofCells, ofCell, Value.cells, Nat.reduceAdd, Nat.reduceEqDiff, Nat.reduceLT, Nat.reduceLeDiff, Nat.reduceMul, Nat.reduceSub, reduceIte]
  · simp -implicitDefEqProofs only [rowN_ne h2] at c1
    simp -implicitDefEqProofs only [QS, QN, QG, QO, enc_Cond, Go.Proofs.Tryz.f74, c1, hsc, tshuts_N, bne, SO, SH, frzO, frzE, AV.laid, AV.treeV, AV.treeC, St.laid, spent, AV.subs, AV.shut, AV.scal, AV.scals, evBuildSlice, elemsOf, zeroOK, evAppend, rowOf, noref, isRef, small, import_, AV.any, AV.anys, isPtr, finV, rename, noPtr, isBad, AV.isUndef, St.setRow, AV.shutV, rebuild, isAggV, evBuild, fillCells, evCutOwn, dedup, nodupB, idx, AV.rows, AV.rowss, AV.mapO, AV.mapOs, firstRegion, gc, keptBoxes, keptRows, renameB, AV.boxes, AV.boxess, SN, evCutRow, Int.reduceToNat, id_eq, Int.reduceBEq, Int.reduceLE, Int.reduceLT, SS, one_ne2, num_ne2, TIS, MDS, wanted, numbered, plainC, plainS, evEq, eqK, evBox, evAlloc, evStore, evLoad, evFieldAddr, behind, takeVal, AV.cells, AV.isCell, ofCells, ofCell, Value.cells, Nat.reduceAdd, Nat.reduceEqDiff, Nat.reduceLT, Nat.reduceLeDiff, Nat.reduceMul, Nat.reduceSub, reduceIte]
theorem r_spec_CondAnd (k : Nat) (hk : 290271069732864 + 4 ≤ k) (x y : Cond) (hx : x.w ≤ 1099511627776) (hy : y.w ≤ 1099511627776) :
    run E noExt k 75 [x.enc true, y.enc true] [] = some ((⟨8, 0, 0, [x, y]⟩ : Cond).dAV, []) := by
  have c1 := r_spec_l15Copy (fl := true) (k - 1) (by omega) x (by omega)
  have c2 := r_spec_l15Copy (fl := true) (k - 1) (by omega) y (by omega)
  unfold Cond.copyAV at c1 c2
  have hsc := tscals_N x.args
  have hsd := tscals_N y.args
  obtain ⟨k, rfl⟩ : ∃ j, k = j + 1 := ⟨k - 1, by omega⟩
  rw [run_succ rfl rfl, body_eq (nt := 11) (fn := Go.Proofs.Tryz.f75) (by kernel_rfl) rfl rfl rfl rfl rfl rfl rfl rfl]
  simp -implicitDefEqProofs only [Nat.add_sub_cancel, enc_Cond] at c1 c2
  have hr : rowN 0 ([x, y].map (Cond.enc true)) = .own 0 false 28 4 [x.enc true, y.enc true] := rowN_ne (by simp)
  simp -implicitDefEqProofs only [Cond.dAV, hr]
  rcases Classical.em (x.args.map Cond.tencN = []) with h2 | h2 <;> rcases Classical.em (y.args.map Cond.tencN = []) with h4 | h4
  · have h3 : x.args.map (Cond.enc true) = [] := by cases hx : x.args with | nil => rfl | cons c r => rw [hx] at h2; simp at h2
    have h5 : y.args.map (Cond.enc true) = [] := by cases hx : y.args with | nil => rfl | cons c r => rw [hx] at h4; simp at h4
    rw [h2, h3] at c1
    rw [h4, h5] at c2
    simp -implicitDefEqProofs only [rowN_nil] at c1 c2
    simp -implicitDefEqProofs only [QS, QN, QG, QO, enc_Cond, h3, h5, Go.Proofs.Tryz.f75, c1, c2, hsc, hsd, plan_75_1, SO, SH, frzO, frzE, AV.laid, AV.treeV, AV.treeC, St.laid, spent, AV.subs, AV.shut, AV.scal, AV.scals, evBuildSlice, elemsOf, zeroOK, evAppend, rowOf, noref, isRef, small, import_, AV.any, AV.anys, isPtr, finV, rename, noPtr, isBad, AV.isUndef, St.setRow, AV.shutV, rebuild, isAggV, evBuild, fillCells, evCutOwn, dedup, nodupB, idx, AV.rows, AV.rowss, AV.mapO, AV.mapOs, firstRegion, gc, keptBoxes, keptRows, renameB, AV.boxes, AV.boxess, SN, evCutRow, Int.reduceToNat, id_eq, Int.reduceBEq, Int.reduceLE, Int.reduceLT, SS, one_ne2, num_ne2, TIS, MDS, wanted, numbered, plainC, plainS, evEq, eqK, evBox, evAlloc, evStore, evLoad, evFieldAddr, behind, takeVal, AV.cells, AV.isCell, ofCells, ofCell, Value.cells, Nat.reduceAdd, Nat.reduceEqDiff, Nat.reduceLT, Nat.reduceLeDiff, Nat.reduceMul, Nat.reduceSub, reduceIte]
  · have h3 : x.args.map (Cond.enc true) = [] := by cases hx : x.args with | nil => rfl | cons c r => rw [hx] at h2; simp at h2
    rw [h2, h3] at c1
    simp -implicitDefEqProofs only [rowN_nil, rowN_ne h4] at c1 c2
    simp -implicitDefEqProofs only [QS, QN, QG, QO, enc_Cond, h3, Go.Proofs.Tryz.f75, c1, c2, hsc, hsd, tshuts_N, plan_75_1, SO, SH, frzO, frzE, AV.laid, AV.treeV, AV.treeC, St.laid, spent, AV.subs, AV.shut, AV.scal, AV.scals, evBuildSlice, elemsOf, zeroOK, evAppend, rowOf, noref, isRef, small, import_, AV.any, AV.anys, isPtr, finV, rename, noPtr, isBad, AV.isUndef, St.setRow, AV.shutV, rebuild, isAggV, evBuild, fillCells, evCutOwn, dedup, nodupB, idx, AV.rows, AV.rowss, AV.mapO, AV.mapOs, firstRegion, gc, keptBoxes, keptRows, renameB, AV.boxes, AV.boxess, SN, evCutRow, Int.reduceToNat, id_eq, Int.reduceBEq, Int.reduceLE, Int.reduceLT, SS, one_ne2, num_ne2, TIS, MDS, wanted, numbered, plainC, plainS, evEq, eqK, evBox, evAlloc, evStore, evLoad, evFieldAddr, behind, takeVal, AV.cells, AV.isCell, ofCells, ofCell, Value.cells, Nat.reduceAdd, Nat.reduceEqDiff, Nat.reduceLT, Nat.reduceLeDiff, Nat.reduceMul, Nat.reduceSub, reduceIte]
  · have h5 : y.args.map (Cond.enc true) = [] := by cases hx : y.args with | nil => rfl | cons c r => rw [hx] at h4; simp at h4
    rw [h4, h5] at c2
    simp -implicitDefEqProofs only [rowN_nil, rowN_ne h2] at c1 c2
    simp -implicitDefEqProofs only [QS, QN, QG, QO, enc_Cond, h5, Go.Proofs.Tryz.f75, c1, c2, hsc, hsd, tshuts_N, plan_75_1, SO, SH, frzO, frzE, AV.laid, AV.treeV, AV.treeC, St.laid, spent, AV.subs, AV.shut, AV.scal, AV.scals, evBuildSlice, elemsOf, zeroOK, evAppend, rowOf, noref, isRef, small, import_, AV.any, AV.anys, isPtr, finV, rename, noPtr, isBad, AV.isUndef, St.setRow, AV.shutV, rebuild, isAggV, evBuild, fillCells, evCutOwn, dedup, nodupB, idx, AV.rows, AV.rowss, AV.mapO, AV.mapOs, firstRegion, gc, keptBoxes, keptRows, renameB, AV.boxes, AV.boxess, SN, evCutRow, Int.reduceToNat, id_eq, Int.reduceBEq, Int.reduceLE, Int.reduceLT, SS, one_ne2, num_ne2, TIS, MDS, wanted, numbered, plainC, plainS, evEq, eqK, evBox, evAlloc, evStore, evLoad, evFieldAddr, behind, takeVal, AV.cells, AV.isCell, ofCells, ofCell, Value.cells, Nat.reduceAdd, Nat.reduceEqDiff, Nat.reduceLT, Nat.reduceLeDiff, Nat.reduceMul, Nat.reduceSub, reduceIte]
  · simp -implicitDefEqProofs only [rowN_ne h2] at c1
    simp -implicitDefEqProofs only [rowN_ne h4] at c2
    simp -implicitDefEqProofs only [QS, QN, QG, QO, enc_Cond, Go.Proofs.Tryz.f75, c1, c2, hsc, hsd, tshuts_N, plan_75_1, SO, SH, frzO, frzE, AV.laid, AV.treeV, AV.treeC, St.laid, spent, AV.subs, AV.shut, AV.scal, AV.scals, evBuildSlice, elemsOf, zeroOK, evAppend, rowOf, noref, isRef, small, import_, AV.any, AV.anys, isPtr, finV, rename, noPtr, isBad, AV.isUndef, St.setRow, AV.shutV, rebuild, isAggV, evBuild, fillCells, evCutOwn, dedup, nodupB, idx, AV.rows, AV.rowss, AV.mapO, AV.mapOs, firstRegion, gc, keptBoxes, keptRows, renameB, AV.boxes, AV.boxess, SN, evCutRow, Int.reduceToNat, id_eq, Int.reduceBEq, Int.reduceLE, Int.reduceLT, SS, one_ne2, num_ne2, TIS, MDS, wanted, numbered, plainC, plainS, evEq, eqK, evBox, evAlloc, evStore, evLoad, evFieldAddr, behind, takeVal, AV.cells, AV.isCell, ofCells, ofCell, Value.cells, Nat.reduceAdd, Nat.reduceEqDiff, Nat.reduceLT, Nat.reduceLeDiff, Nat.reduceMul, Nat.reduceSub, reduceIte]
theorem r_spec_CondOr (k : Nat) (hk : 290271069732864 + 4 ≤ k) (x y : Cond) (hx : x.w ≤ 1099511627776) (hy : y.w ≤ 1099511627776) :
    run E noExt k 76 [x.enc true, y.enc true] [] = some ((⟨9, 0, 0, [x, y]⟩ : Cond).dAV, []) := by
  have c1 := r_spec_l15Copy (fl := true) (k - 1) (by omega) x (by omega)
  have c2 := r_spec_l15Copy (fl := true) (k - 1) (by omega) y (by omega)
  unfold Cond.copyAV at c1 c2
  have hsc := tscals_N x.args
  have hsd := tscals_N y.args
  obtain ⟨k, rfl⟩ : ∃ j, k = j + 1 := ⟨k - 1, by omega⟩
  rw [run_succ rfl rfl, body_eq (nt := 11) (fn := Go.Proofs.Tryz.f76) (by kernel_rfl) rfl rfl rfl rfl rfl rfl rfl rfl]
  simp -implicitDefEqProofs only [Nat.add_sub_cancel, enc_Cond] at c1 c2
  have hr : rowN 0 ([x, y].map (Cond.enc true)) = .own 0 false 28 4 [x.enc true, y.enc true] := rowN_ne (by simp)
  simp -implicitDefEqProofs only [Cond.dAV, hr]
  rcases Classical.em (x.args.map Cond.tencN = []) with h2 | h2 <;> rcases Classical.em (y.args.map Cond.tencN = []) with h4 | h4
  · have h3 : x.args.map (Cond.enc true) = [] := by cases hx : x.args with | nil => rfl | cons c r => rw [hx] at h2; simp at h2
    have h5 : y.args.map (Cond.enc true) = [] := by cases hx : y.args with | nil => rfl | cons c r => rw [hx] at h4; simp at h4
    rw [h2, h3] at c1
    rw [h4, h5] at c2
    simp -implicitDefEqProofs only [rowN_nil] at c1 c2
    simp -implicitDefEqProofs only [QS, QN, QG, QO, enc_Cond, h3, h5, Go.Proofs.Tryz.f76, c1, c2, hsc, hsd, plan_76_1, SO, SH, frzO, frzE, AV.laid, AV.treeV, AV.treeC, St.laid, spent, AV.subs, AV.shut, AV.scal, AV.scals, evBuildSlice, elemsOf, zeroOK, evAppend, rowOf, noref, isRef, small, import_, AV.any, AV.anys, isPtr, finV, rename, noPtr, isBad, AV.isUndef, St.setRow, AV.shutV, rebuild, isAggV, evBuild, fillCells, evCutOwn, dedup, nodupB, idx, AV.rows, AV.rowss, AV.mapO, AV.mapOs, firstRegion, gc, keptBoxes, keptRows, renameB, AV.boxes, AV.boxess, SN, evCutRow, Int.reduceToNat, id_eq, Int.reduceBEq, Int.reduceLE, Int.reduceLT, SS, one_ne2, num_ne2, TIS, MDS, wanted, numbered, plainC, plainS, evEq, eqK, evBox, evAlloc, evStore, evLoad, evFieldAddr, behind, takeVal, AV.cells, AV.isCell, ofCells, ofCell, Value.cells, Nat.reduceAdd, Nat.reduceEqDiff, Nat.reduceLT, Nat.reduceLeDiff, Nat.reduceMul, Nat.reduceSub, reduceIte]
  · have h3 : x.args.map (Cond.enc true) = [] := by cases hx : x.args with | nil => rfl | cons c r => rw [hx] at h2; simp at h2
    rw [h2, h3] at c1
    simp -implicitDefEqProofs only [rowN_nil, rowN_ne h4] at c1 c2
    simp -implicitDefEqProofs only [QS, QN, QG, QO, enc_Cond, h3, Go.Proofs.Tryz.f76, c1, c2, hsc, hsd, tshuts_N, plan_76_1, SO, SH, frzO, frzE, AV.laid, AV.treeV, AV.treeC, St.laid, spent, AV.subs, AV.shut, AV.scal, AV.scals, evBuildSlice, elemsOf, zeroOK, evAppend, rowOf, noref, isRef, small, import_, AV.any, AV.anys, isPtr, finV, rename, noPtr, isBad, AV.isUndef, St.setRow, AV.shutV, rebuild, isAggV, evBuild, fillCells, evCutOwn, dedup, nodupB, idx, AV.rows, AV.rowss, AV.mapO, AV.mapOs, firstRegion, gc, keptBoxes, keptRows, renameB, AV.boxes, AV.boxess, SN, evCutRow, Int.reduceToNat, id_eq, Int.reduceBEq, Int.reduceLE, Int.reduceLT, SS, one_ne2, num_ne2, TIS, MDS, wanted, numbered, plainC, plainS, evEq, eqK, evBox, evAlloc, evStore, evLoad, evFieldAddr, behind, takeVal, AV.cells, AV.isCell, ofCells, ofCell, Value.cells, Nat.reduceAdd, Nat.reduceEqDiff, Nat.reduceLT, Nat.reduceLeDiff, Nat.reduceMul, Nat.reduceSub, reduceIte]
  · have h5 : y.args.map (Cond.enc true) = [] := by cases hx : y.args with | nil => rfl | cons c r => rw [hx] at h4; simp at h4
    rw [h4, h5] at c2
    simp -implicitDefEqProofs only [rowN_nil, rowN_ne h2] at c1 c2
    simp -implicitDefEqProofs only [QS, QN, QG, QO, enc_Cond, h5, Go.Proofs.Tryz.f76, c1, c2, hsc, hsd, tshuts_N, plan_76_1, SO, SH, frzO, frzE, AV.laid, AV.treeV, AV.treeC, St.laid, spent, AV.subs, AV.shut, AV.scal, AV.scals, evBuildSlice, elemsOf, zeroOK, evAppend, rowOf, noref, isRef, small, import_, AV.any, AV.anys, isPtr, finV, rename, noPtr, isBad, AV.isUndef, St.setRow, AV.shutV, rebuild, isAggV, evBuild, fillCells, evCutOwn, dedup, nodupB, idx, AV.rows, AV.rowss, AV.mapO, AV.mapOs, firstRegion, gc, keptBoxes, keptRows, renameB, AV.boxes, AV.boxess, SN, evCutRow, Int.reduceToNat, id_eq, Int.reduceBEq, Int.reduceLE, Int.reduceLT, SS, one_ne2, num_ne2, TIS, MDS, wanted, numbered, plainC, plainS, evEq, eqK, evBox, evAlloc, evStore, evLoad, evFieldAddr, behind, takeVal, AV.cells, AV.isCell, ofCells, ofCell, Value.cells, Nat.reduceAdd, Nat.reduceEqDiff, Nat.reduceLT, Nat.reduceLeDiff, Nat.reduceMul, Nat.reduceSub, reduceIte]
  · simp -implicitDefEqProofs only [rowN_ne h2] at c1
    simp -implicitDefEqProofs only [rowN_ne h4] at c2
    simp -implicitDefEqProofs only [QS, QN, QG, QO, enc_Cond, Go.Proofs.Tryz.f76, c1, c2, hsc, hsd, tshuts_N, plan_76_1, SO, SH, frzO, frzE, AV.laid, AV.treeV, AV.treeC, St.laid, spent, AV.subs, AV.shut, AV.scal, AV.scals, evBuildSlice, elemsOf, zeroOK, evAppend, rowOf, noref, isRef, small, import_, AV.any, AV.anys, isPtr, finV, rename, noPtr, isBad, AV.isUndef, St.setRow, AV.shutV, rebuild, isAggV, evBuild, fillCells, evCutOwn, dedup, nodupB, idx, AV.rows, AV.rowss, AV.mapO, AV.mapOs, firstRegion, gc, keptBoxes, keptRows, renameB, AV.boxes, AV.boxess, SN, evCutRow, Int.reduceToNat, id_eq, Int.reduceBEq, Int.reduceLE, Int.reduceLT, SS, one_ne2, num_ne2, TIS, MDS, wanted, numbered, plainC, plainS, evEq, eqK, evBox, evAlloc, evStore, evLoad, evFieldAddr, behind, takeVal, AV.cells, AV.isCell, ofCells, ofCell, Value.cells, Nat.reduceAdd, Nat.reduceEqDiff, Nat.reduceLT, Nat.reduceLeDiff, Nat.reduceMul, Nat.reduceSub, reduceIte]
end Go.Proofs.YtigfcbcnfppmcaaGreat.Flat
