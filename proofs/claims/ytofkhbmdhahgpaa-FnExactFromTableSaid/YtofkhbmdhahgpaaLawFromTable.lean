/-
The law of FromTable: it answers true, whatever it is handed.
-/
import Derived.Test.YtofkhbmdhahgpaaRows
import Derived.Test.YtofkhbmdhahgpaaEqS
import Derived.Test.YtofkhbmdhahgpaaEqZ
import Derived.Test.YtofkhbmdhahgpaaEqT
import Derived.Test.YtofkhbmdhahgpaaEqQ
import Derived.Test.YtofkhbmdhahgpaaEqFB
import Derived.Test.YtofkhbmdhahgpaaEqX
import Derived.WalkKit
import Derived.ProofKit
import Derived.OpenShut
import Derived.ShutString
import Derived.ChangeOld
import Derived.Below
import Derived.SizedLaws
import Derived.Carry
set_option linter.unusedVariables false
set_option linter.unusedSimpArgs false
set_option maxRecDepth 10000
namespace Go.Proofs.Ytofkhbmdhahgpaa.fnExactFromTable
section
open Flat
theorem reckonedY (x0 : Int) (x1 : List Bool) (h1 : FitL (fun _ => True) x1) (hsp : (fromTable x0 x1).nodes = []) (k : Nat) (hk : 1152921504606846976 + 4 * ((x1.length)) + 60 ≤ k) : run E noExt k 3 [.int .i64 x0, .sl false (x1.map AV.bool)] [] = some (.bool true, []) := by
  by_cases c0 : x1.length ≤ 1048576
  ·
    have cd0 : decide ((1048576 : Int) < (x1.length : Int)) = false := decide_eq_false (by omega)
    have t0 := r_laws_toBoolS (fl := false) (k - 1) (by omega) x1 (by omega)
    have e0 := r_laws_eqBoolS (fl := true) (gl := true) (k - 1) (by omega) x1 x1 (by omega)
    have f0 := r_spec_FromTable (fl := true) (k - 1) (by omega) x0 x1 (by omega)
    have f1 := r_impl_FromTable (fl := true) (k - 1) (by omega) x0 x1 (by omega)
    have f2 := r_laws_eqDiagram (fl := true) (gl := true) (k - 1) (by omega) (fromTable x0 x1) (fromTable x0 x1) (by have := fromTable_len x0 x1; unfold Diagram.w; omega)
    have f3 := r_laws_markBoolS (k - 1) (by omega) x1 (by omega) 1 (by omega)
    have f4 := r_laws_markDiagramN (k - 1) (by omega) (fromTable x0 x1) (by have := fromTable_len x0 x1; omega) 1 (by omega)
    have f5 := r_laws_heldDiagram (fl := true) (k - 1) (by omega) { fromTable x0 x1 with nodes := marks_Choice 1 (fromTable x0 x1).nodes.length } (fromTable x0 x1).nodes.length (by have := fromTable_len x0 x1; omega) 1 (by omega) rfl
    have f6 := (decide_eq_false (by omega) : decide ((1 : Int) + ((x1.length : Nat) : Int) < 0) = false)
    have f7 := (decide_eq_false (by omega) : decide ((1 : Int) + ((3 * (fromTable x0 x1).nodes.length : Nat) : Int) < 0) = false)
    have hE : encR 0 (fromTable x0 x1).nodes = .nils := by rw [hsp]; exact encR_nil
    have hM : encR 0 (marks_Choice 1 (fromTable x0 x1).nodes.length) = .nils := by rw [hsp]; exact encR_nil
    have hz : decide ((1 : Int) + 0 < 0) = false := by decide
    obtain ⟨k, rfl⟩ : ∃ j, k = j + 1 := ⟨k - 1, by omega⟩
    rw [run_succ rfl rfl, body_eq (nt := 98) (fn := Go.Proofs.Try.f3) (by kernel_rfl) rfl rfl rfl rfl rfl rfl rfl rfl]
    simp -implicitDefEqProofs only [Nat.add_sub_cancel, decide_true, enc_Diagram, hz, Diagram.encN, hE, hM, marks_zero, hsp, List.map_nil, List.length_nil, encR_nil] at t0 e0 f0 f1 f2 f3 f4 f5 f6 f7
    simp -implicitDefEqProofs only [QS, QN, QG, QO, Go.Proofs.Try.f3, hz, Diagram.encN, hE, hM, marks_zero, hsp, encR_nil, enc_Diagram, t0, e0, f0, f1, f2, f3, f4, f5, f6, f7, cd0, bne, SO, SH, frzO, frzE, AV.laid, AV.treeV, AV.treeC, St.laid, spent, AV.subs, AV.shut, AV.scal, AV.scals, evBuildSlice, elemsOf, zeroOK, evAppend, rowOf, noref, isRef, small, import_, AV.any, AV.anys, isPtr, finV, rename, noPtr, isBad, AV.isUndef, St.setRow, AV.shutV, rebuild, isAggV, evBuild, fillCells, evCutOwn, dedup, nodupB, idx, AV.rows, AV.rowss, AV.mapO, AV.mapOs, firstRegion, gc, keptBoxes, keptRows, renameB, AV.boxes, AV.boxess, look_cons, reduceCtorEq, evCall_mutOwn, evCall_mutAgg, evGive, giveRows, ioBoxes, mutArgs, roArgs, handArg, mutSlots, isPtrB, pairs, pairss, back_nil, back_cons, backO, backE, setBoxes, importB, mode_mut, mode_give, mode_io, mode_ro, List.zip_cons_cons, List.zip_nil_left, List.zip_nil_right, ite_self, ite_true, ite_false, finish_give, finish_mut1, finish_io0, finish_io1, finish_io2, finish_io3, finish_ioc, finI, finC, finW_ptr, evCall_mutNil, scals_ints, plains_ints, scals_Choice, scals_bools2, plains_bools2, rowss_bools, boxess_bools, mapOs_bools, ifEv_bool, gate_bool, gateP_bool, gateQ_bool, pick_bool, SN, evCutRow, Int.reduceToNat, id_eq, Int.reduceBEq, Int.reduceLE, Int.reduceLT, SS, TIS, MDS, wanted, numbered, plainC, plainS, evEq, eqK, evBox, evAlloc, evStore, evLoad, evFieldAddr, behind, takeVal, AV.cells, AV.isCell, ofCells, ofCell, Value.cells, Nat.reduceAdd, Nat.reduceEqDiff, Nat.reduceLT, Nat.reduceLeDiff, Nat.reduceMul, Nat.reduceSub, reduceIte]
    repeat' (split <;> (rename_i h; (try simp -implicitDefEqProofs only [Bool.not_eq_true', Bool.not_eq_false', decide_eq_true_eq, decide_eq_false_iff_not] at h); (try simp -implicitDefEqProofs only [QS, QN, QG, QO, *, hz, Diagram.encN, hE, hM, marks_zero, hsp, encR_nil, enc_Diagram, t0, e0, f0, f1, f2, f3, f4, f5, f6, f7, cd0, bne, SO, SH, frzO, frzE, AV.laid, AV.treeV, AV.treeC, St.laid, spent, AV.subs, AV.shut, AV.scal, AV.scals, evBuildSlice, elemsOf, zeroOK, evAppend, rowOf, noref, isRef, small, import_, AV.any, AV.anys, isPtr, finV, rename, noPtr, isBad, AV.isUndef, St.setRow, AV.shutV, rebuild, isAggV, evBuild, fillCells, evCutOwn, dedup, nodupB, idx, AV.rows, AV.rowss, AV.mapO, AV.mapOs, firstRegion, gc, keptBoxes, keptRows, renameB, AV.boxes, AV.boxess, look_cons, reduceCtorEq, evCall_mutOwn, evCall_mutAgg, evGive, giveRows, ioBoxes, mutArgs, roArgs, handArg, mutSlots, isPtrB, pairs, pairss, back_nil, back_cons, backO, backE, setBoxes, importB, mode_mut, mode_give, mode_io, mode_ro, List.zip_cons_cons, List.zip_nil_left, List.zip_nil_right, ite_self, ite_true, ite_false, finish_give, finish_mut1, finish_io0, finish_io1, finish_io2, finish_io3, finish_ioc, finI, finC, finW_ptr, evCall_mutNil, scals_ints, plains_ints, scals_Choice, scals_bools2, plains_bools2, rowss_bools, boxess_bools, mapOs_bools, ifEv_bool, gate_bool, gateP_bool, gateQ_bool, pick_bool, SN, evCutRow, Int.reduceToNat, id_eq, Int.reduceBEq, Int.reduceLE, Int.reduceLT, SS, TIS, MDS, wanted, numbered, plainC, plainS, evEq, eqK, evBox, evAlloc, evStore, evLoad, evFieldAddr, behind, takeVal, AV.cells, AV.isCell, ofCells, ofCell, Value.cells, Nat.reduceAdd, Nat.reduceEqDiff, Nat.reduceLT, Nat.reduceLeDiff, Nat.reduceMul, Nat.reduceSub, reduceIte])))
  ·
    have cd0 : decide ((1048576 : Int) < (x1.length : Int)) = true := decide_eq_true (by omega)
    obtain ⟨k, rfl⟩ : ∃ j, k = j + 1 := ⟨k - 1, by omega⟩
    rw [run_succ rfl rfl, body_eq (nt := 98) (fn := Go.Proofs.Try.f3) (by kernel_rfl) rfl rfl rfl rfl rfl rfl rfl rfl]
    simp -implicitDefEqProofs only [QS, QN, QG, QO, Go.Proofs.Try.f3, enc_Diagram, cd0, bne, SO, SH, frzO, frzE, AV.laid, AV.treeV, AV.treeC, St.laid, spent, AV.subs, AV.shut, AV.scal, AV.scals, evBuildSlice, elemsOf, zeroOK, evAppend, rowOf, noref, isRef, small, import_, AV.any, AV.anys, isPtr, finV, rename, noPtr, isBad, AV.isUndef, St.setRow, AV.shutV, rebuild, isAggV, evBuild, fillCells, evCutOwn, dedup, nodupB, idx, AV.rows, AV.rowss, AV.mapO, AV.mapOs, firstRegion, gc, keptBoxes, keptRows, renameB, AV.boxes, AV.boxess, ifEv_bool, gate_bool, gateP_bool, gateQ_bool, pick_bool, SN, evCutRow, Int.reduceToNat, id_eq, Int.reduceBEq, Int.reduceLE, Int.reduceLT, SS, TIS, MDS, wanted, numbered, plainC, plainS, evEq, eqK, evBox, evAlloc, evStore, evLoad, evFieldAddr, behind, takeVal, AV.cells, AV.isCell, ofCells, ofCell, Value.cells, Nat.reduceAdd, Nat.reduceEqDiff, Nat.reduceLT, Nat.reduceLeDiff, Nat.reduceMul, Nat.reduceSub, reduceIte]
    repeat' (split <;> (rename_i h; (try simp -implicitDefEqProofs only [Bool.not_eq_true', Bool.not_eq_false', decide_eq_true_eq, decide_eq_false_iff_not] at h); (try simp -implicitDefEqProofs only [QS, QN, QG, QO, *, enc_Diagram, cd0, bne, SO, SH, frzO, frzE, AV.laid, AV.treeV, AV.treeC, St.laid, spent, AV.subs, AV.shut, AV.scal, AV.scals, evBuildSlice, elemsOf, zeroOK, evAppend, rowOf, noref, isRef, small, import_, AV.any, AV.anys, isPtr, finV, rename, noPtr, isBad, AV.isUndef, St.setRow, AV.shutV, rebuild, isAggV, evBuild, fillCells, evCutOwn, dedup, nodupB, idx, AV.rows, AV.rowss, AV.mapO, AV.mapOs, firstRegion, gc, keptBoxes, keptRows, renameB, AV.boxes, AV.boxess, ifEv_bool, gate_bool, gateP_bool, gateQ_bool, pick_bool, SN, evCutRow, Int.reduceToNat, id_eq, Int.reduceBEq, Int.reduceLE, Int.reduceLT, SS, TIS, MDS, wanted, numbered, plainC, plainS, evEq, eqK, evBox, evAlloc, evStore, evLoad, evFieldAddr, behind, takeVal, AV.cells, AV.isCell, ofCells, ofCell, Value.cells, Nat.reduceAdd, Nat.reduceEqDiff, Nat.reduceLT, Nat.reduceLeDiff, Nat.reduceMul, Nat.reduceSub, reduceIte])))
theorem reckonedN (x0 : Int) (x1 : List Bool) (h1 : FitL (fun _ => True) x1) (hsp : ¬ (fromTable x0 x1).nodes = []) (k : Nat) (hk : 1152921504606846976 + 4 * ((x1.length)) + 60 ≤ k) : run E noExt k 3 [.int .i64 x0, .sl false (x1.map AV.bool)] [] = some (.bool true, []) := by
  by_cases c0 : x1.length ≤ 1048576
  ·
    have cd0 : decide ((1048576 : Int) < (x1.length : Int)) = false := decide_eq_false (by omega)
    have t0 := r_laws_toBoolS (fl := false) (k - 1) (by omega) x1 (by omega)
    have e0 := r_laws_eqBoolS (fl := true) (gl := true) (k - 1) (by omega) x1 x1 (by omega)
    have f0 := r_spec_FromTable (fl := true) (k - 1) (by omega) x0 x1 (by omega)
    have f1 := r_impl_FromTable (fl := true) (k - 1) (by omega) x0 x1 (by omega)
    have f2 := r_laws_eqDiagram (fl := true) (gl := true) (k - 1) (by omega) (fromTable x0 x1) (fromTable x0 x1) (by have := fromTable_len x0 x1; unfold Diagram.w; omega)
    have f3 := r_laws_markBoolS (k - 1) (by omega) x1 (by omega) 1 (by omega)
    have f4 := r_laws_markDiagramN (k - 1) (by omega) (fromTable x0 x1) (by have := fromTable_len x0 x1; omega) 1 (by omega)
    have f5 := r_laws_heldDiagram (fl := true) (k - 1) (by omega) { fromTable x0 x1 with nodes := marks_Choice 1 (fromTable x0 x1).nodes.length } (fromTable x0 x1).nodes.length (by have := fromTable_len x0 x1; omega) 1 (by omega) rfl
    have f6 := (decide_eq_false (by omega) : decide ((1 : Int) + ((x1.length : Nat) : Int) < 0) = false)
    have f7 := (decide_eq_false (by omega) : decide ((1 : Int) + ((3 * (fromTable x0 x1).nodes.length : Nat) : Int) < 0) = false)
    have hE := encR_ne (id := 0) hsp
    have hM := encR_ne (id := 0) (marks_ne (z := 1) hsp)
    obtain ⟨k, rfl⟩ : ∃ j, k = j + 1 := ⟨k - 1, by omega⟩
    rw [run_succ rfl rfl, body_eq (nt := 98) (fn := Go.Proofs.Try.f3) (by kernel_rfl) rfl rfl rfl rfl rfl rfl rfl rfl]
    simp -implicitDefEqProofs only [Nat.add_sub_cancel, decide_true, enc_Diagram, Diagram.encN, hE, hM] at t0 e0 f0 f1 f2 f3 f4 f5 f6 f7
    simp -implicitDefEqProofs only [QS, QN, QG, QO, Go.Proofs.Try.f3, Diagram.encN, hE, hM, enc_Diagram, t0, e0, f0, f1, f2, f3, f4, f5, f6, f7, cd0, bne, SO, SH, frzO, frzE, AV.laid, AV.treeV, AV.treeC, St.laid, spent, AV.subs, AV.shut, AV.scal, AV.scals, evBuildSlice, elemsOf, zeroOK, evAppend, rowOf, noref, isRef, small, import_, AV.any, AV.anys, isPtr, finV, rename, noPtr, isBad, AV.isUndef, St.setRow, AV.shutV, rebuild, isAggV, evBuild, fillCells, evCutOwn, dedup, nodupB, idx, AV.rows, AV.rowss, AV.mapO, AV.mapOs, firstRegion, gc, keptBoxes, keptRows, renameB, AV.boxes, AV.boxess, look_cons, reduceCtorEq, evCall_mutOwn, evCall_mutAgg, evGive, giveRows, ioBoxes, mutArgs, roArgs, handArg, mutSlots, isPtrB, pairs, pairss, back_nil, back_cons, backO, backE, setBoxes, importB, mode_mut, mode_give, mode_io, mode_ro, List.zip_cons_cons, List.zip_nil_left, List.zip_nil_right, ite_self, ite_true, ite_false, finish_give, finish_mut1, finish_io0, finish_io1, finish_io2, finish_io3, finish_ioc, finI, finC, finW_ptr, evCall_mutNil, scals_ints, plains_ints, scals_Choice, scals_bools2, plains_bools2, rowss_bools, boxess_bools, mapOs_bools, ifEv_bool, gate_bool, gateP_bool, gateQ_bool, pick_bool, SN, evCutRow, Int.reduceToNat, id_eq, Int.reduceBEq, Int.reduceLE, Int.reduceLT, SS, TIS, MDS, wanted, numbered, plainC, plainS, evEq, eqK, evBox, evAlloc, evStore, evLoad, evFieldAddr, behind, takeVal, AV.cells, AV.isCell, ofCells, ofCell, Value.cells, Nat.reduceAdd, Nat.reduceEqDiff, Nat.reduceLT, Nat.reduceLeDiff, Nat.reduceMul, Nat.reduceSub, reduceIte]
    repeat' (split <;> (rename_i h; (try simp -implicitDefEqProofs only [Bool.not_eq_true', Bool.not_eq_false', decide_eq_true_eq, decide_eq_false_iff_not] at h); (try simp -implicitDefEqProofs only [QS, QN, QG, QO, *, Diagram.encN, hE, hM, enc_Diagram, t0, e0, f0, f1, f2, f3, f4, f5, f6, f7, cd0, bne, SO, SH, frzO, frzE, AV.laid, AV.treeV, AV.treeC, St.laid, spent, AV.subs, AV.shut, AV.scal, AV.scals, evBuildSlice, elemsOf, zeroOK, evAppend, rowOf, noref, isRef, small, import_, AV.any, AV.anys, isPtr, finV, rename, noPtr, isBad, AV.isUndef, St.setRow, AV.shutV, rebuild, isAggV, evBuild, fillCells, evCutOwn, dedup, nodupB, idx, AV.rows, AV.rowss, AV.mapO, AV.mapOs, firstRegion, gc, keptBoxes, keptRows, renameB, AV.boxes, AV.boxess, look_cons, reduceCtorEq, evCall_mutOwn, evCall_mutAgg, evGive, giveRows, ioBoxes, mutArgs, roArgs, handArg, mutSlots, isPtrB, pairs, pairss, back_nil, back_cons, backO, backE, setBoxes, importB, mode_mut, mode_give, mode_io, mode_ro, List.zip_cons_cons, List.zip_nil_left, List.zip_nil_right, ite_self, ite_true, ite_false, finish_give, finish_mut1, finish_io0, finish_io1, finish_io2, finish_io3, finish_ioc, finI, finC, finW_ptr, evCall_mutNil, scals_ints, plains_ints, scals_Choice, scals_bools2, plains_bools2, rowss_bools, boxess_bools, mapOs_bools, ifEv_bool, gate_bool, gateP_bool, gateQ_bool, pick_bool, SN, evCutRow, Int.reduceToNat, id_eq, Int.reduceBEq, Int.reduceLE, Int.reduceLT, SS, TIS, MDS, wanted, numbered, plainC, plainS, evEq, eqK, evBox, evAlloc, evStore, evLoad, evFieldAddr, behind, takeVal, AV.cells, AV.isCell, ofCells, ofCell, Value.cells, Nat.reduceAdd, Nat.reduceEqDiff, Nat.reduceLT, Nat.reduceLeDiff, Nat.reduceMul, Nat.reduceSub, reduceIte])))
  ·
    have cd0 : decide ((1048576 : Int) < (x1.length : Int)) = true := decide_eq_true (by omega)
    obtain ⟨k, rfl⟩ : ∃ j, k = j + 1 := ⟨k - 1, by omega⟩
    rw [run_succ rfl rfl, body_eq (nt := 98) (fn := Go.Proofs.Try.f3) (by kernel_rfl) rfl rfl rfl rfl rfl rfl rfl rfl]
    simp -implicitDefEqProofs only [QS, QN, QG, QO, Go.Proofs.Try.f3, enc_Diagram, cd0, bne, SO, SH, frzO, frzE, AV.laid, AV.treeV, AV.treeC, St.laid, spent, AV.subs, AV.shut, AV.scal, AV.scals, evBuildSlice, elemsOf, zeroOK, evAppend, rowOf, noref, isRef, small, import_, AV.any, AV.anys, isPtr, finV, rename, noPtr, isBad, AV.isUndef, St.setRow, AV.shutV, rebuild, isAggV, evBuild, fillCells, evCutOwn, dedup, nodupB, idx, AV.rows, AV.rowss, AV.mapO, AV.mapOs, firstRegion, gc, keptBoxes, keptRows, renameB, AV.boxes, AV.boxess, ifEv_bool, gate_bool, gateP_bool, gateQ_bool, pick_bool, SN, evCutRow, Int.reduceToNat, id_eq, Int.reduceBEq, Int.reduceLE, Int.reduceLT, SS, TIS, MDS, wanted, numbered, plainC, plainS, evEq, eqK, evBox, evAlloc, evStore, evLoad, evFieldAddr, behind, takeVal, AV.cells, AV.isCell, ofCells, ofCell, Value.cells, Nat.reduceAdd, Nat.reduceEqDiff, Nat.reduceLT, Nat.reduceLeDiff, Nat.reduceMul, Nat.reduceSub, reduceIte]
    repeat' (split <;> (rename_i h; (try simp -implicitDefEqProofs only [Bool.not_eq_true', Bool.not_eq_false', decide_eq_true_eq, decide_eq_false_iff_not] at h); (try simp -implicitDefEqProofs only [QS, QN, QG, QO, *, enc_Diagram, cd0, bne, SO, SH, frzO, frzE, AV.laid, AV.treeV, AV.treeC, St.laid, spent, AV.subs, AV.shut, AV.scal, AV.scals, evBuildSlice, elemsOf, zeroOK, evAppend, rowOf, noref, isRef, small, import_, AV.any, AV.anys, isPtr, finV, rename, noPtr, isBad, AV.isUndef, St.setRow, AV.shutV, rebuild, isAggV, evBuild, fillCells, evCutOwn, dedup, nodupB, idx, AV.rows, AV.rowss, AV.mapO, AV.mapOs, firstRegion, gc, keptBoxes, keptRows, renameB, AV.boxes, AV.boxess, ifEv_bool, gate_bool, gateP_bool, gateQ_bool, pick_bool, SN, evCutRow, Int.reduceToNat, id_eq, Int.reduceBEq, Int.reduceLE, Int.reduceLT, SS, TIS, MDS, wanted, numbered, plainC, plainS, evEq, eqK, evBox, evAlloc, evStore, evLoad, evFieldAddr, behind, takeVal, AV.cells, AV.isCell, ofCells, ofCell, Value.cells, Nat.reduceAdd, Nat.reduceEqDiff, Nat.reduceLT, Nat.reduceLeDiff, Nat.reduceMul, Nat.reduceSub, reduceIte])))
theorem reckoned (x0 : Int) (x1 : List Bool) (h1 : FitL (fun _ => True) x1) (k : Nat) (hk : 1152921504606846976 + 4 * ((x1.length)) + 60 ≤ k) : run E noExt k 3 [.int .i64 x0, .sl false (x1.map AV.bool)] [] = some (.bool true, []) := by
  rcases Classical.em ((fromTable x0 x1).nodes = []) with hsp | hsp
  · exact reckonedY x0 x1 h1 hsp k hk
  · exact reckonedN x0 x1 h1 hsp k hk
end
open Go.ChangeShapes Go.WideShapes Go.ChangeAt Go.RowKit Flat
theorem own : ownKnob Try.prog.godebug = none := by kernel_rfl
theorem laidOut : laidOutB Try.prog = true := by kernel_rfl
set_option maxRecDepth 100000 in
theorem lifted (os : Os) (started : os.Started) (H : Type) (enc : TypeId × Value → H) :
    ReturnsInHanded {} Try.checked os 3 .any (Rows.fnExactFromTableSpec.pre6 enc Try.prog Try.f3 Rows.fnExactFromTableRow.domain false) (Rows.fnExactFromTableSpec.post enc Try.prog Try.f3 false true false false) := by
  refine returnsInHanded_of_change_sized (C := Try.checked) own started (by kernel_rfl) Try.func3
    (ChangeSpec.witness6 (enc := enc) (C := Try.checked) false ⟨#[], #[.int .i64 0, .slice none 0 0], []⟩ 8 (by kernel_rfl) (by kernel_rfl) (by kernel_rfl) (by kernel_rfl)) ?_
  intro W base args ds gs before hval0 hW hcnd hsz0 _
  have hsz : (DataW.weightsEach Try.prog (Try.f3.params.toList ++ Rows.fnExactFromTableSpec.plain.varTypes Try.prog) (ds ++ gs)).all (· ≤ reachBytes) = true := hsz0
  have hval : ∀ (j : Nat) t v, Try.f3.params[j]? = some t → args[j]? = some v → Value.okWide Try.prog W .any base t v := hval0
  have hW' := hW
  obtain ⟨p, q, hA0, hV, rfl, hfz, hnd⟩ := hW
  have hA : DataW.TrodAll enc Try.prog W 0 (fun _ => true) true Try.f3.params.toList args.toList ds p := hA0
  rw [Try.params3] at hA hval hsz
  obtain ⟨v0, vs0, d0, ds0, p0, q0, hargs, rfl, rfl, h0, r0⟩ := trodAll_cons hA
  obtain ⟨v1, vs1, d1, ds1, p1, q1, rfl, rfl, rfl, h1, r1⟩ := trodAll_cons r0
  obtain ⟨rfl, rfl, rfl⟩ := trodAll_nil r1
  obtain rfl : args = #[v0, v1] := by cases args; simp_all
  obtain ⟨rfl, rfl⟩ := trodVars_none hV
  have lt0 : ∀ x ∈ p0, x.block < W.heap.size := by obtain ⟨m, hm⟩ := h0; exact DataW.trod_lt m _ _ _ hm
  obtain ⟨n0, a0, ty0, ro0⟩ := handed (P := Try.prog) (ts := [3]) (by kernel_rfl) (by kernel_rfl) (hval 0 3 v0 rfl rfl) h0 (weights_each hsz 0 3 d0 rfl rfl)
  obtain ⟨x0, rfl, _⟩ := typed_int Try.underlying3 ty0
  have lt1 : ∀ x ∈ p1, x.block < W.heap.size := by obtain ⟨m, hm⟩ := h1; exact DataW.trod_lt m _ _ _ hm
  obtain ⟨n1, a1, ty1, ro1⟩ := handed (P := Try.prog) (ts := [22, 4]) (by kernel_rfl) (by kernel_rfl) (hval 1 22 v1 rfl rfl) h1 (weights_each hsz 1 22 d1 rfl rfl)
  obtain ⟨x1, rfl, fit1⟩ := shape_22 n1 a1 ty1
  refine (law_ok mixed sound (ext := noExt) hext (reckoned x0 x1 fit1 _ (Nat.le_refl _)) (args := #[v0, v1]) (W := W) rfl (fun j hj => by
    rcases j with _ | _ | j
    · exact ro0
    · exact ro1
    · simp at hj; omega)).mono fun e W' ⟨he, bel⟩ => ?_
  subst he
  exact ⟨_, rfl, _, _, _, [], _, [], hW', trodAll_mk1 (shut_bool Try.underlying4 _), (trodAll_cons_mk (Below.trod laidOut (by kernel_rfl) (of_decide_eq_true (by kernel_rfl)) h0 bel lt0) (trodAll_cons_mk (Below.trod laidOut (by kernel_rfl) (of_decide_eq_true (by kernel_rfl)) h1 bel lt1) trodAll_mk0)), rfl, bel.frame _, fun h => by cases h⟩
theorem over : Rows.fnExactFromTableRow.holds Try.pinned (OpenSpec.ofChange Rows.fnExactFromTableSpec) :=
  OpenClaim.holds_of_wide 3 Try.f3 rfl rfl rfl rfl rfl rfl rfl ⟨rfl, rfl, rfl, rfl, rfl⟩ rfl rfl rfl rfl rfl (by kernel_rfl) Try.func3 (by kernel_rfl)
    (of_decide_eq_true (by kernel_rfl)) (by unfold Func.isWrapper; first | (rw [if_pos (by decide +kernel)]; kernel_rfl) | (rw [if_neg (by decide +kernel)]; exact ⟨rfl, rfl⟩))
    (fun os started H enc _ => lifted os started H enc)
theorem proved : Rows.FnExactFromTableSaid := over
#print axioms proved
end Go.Proofs.Ytofkhbmdhahgpaa.fnExactFromTable
namespace Go.Proofs.Ytofkhbmdhahgpaa
/-- The row, under a short name, for the claim. -/
theorem fnExactFromTable_holds : Rows.FnExactFromTableSaid := fnExactFromTable.proved
end Go.Proofs.Ytofkhbmdhahgpaa
