/-
The law of CompileFor: it answers true, whatever it is handed.
-/
import Derived.Test.YtbajieiodabdgaaRows
import Derived.Test.YtbajieiodabdgaaEqS
import Derived.Test.YtbajieiodabdgaaEqZ
import Derived.Test.YtbajieiodabdgaaEqT
import Derived.Test.YtbajieiodabdgaaEqQ
import Derived.Test.YtbajieiodabdgaaEqYC
import Derived.WalkKit
import Derived.ProofKit
import Derived.OpenShut
import Derived.ShutString
import Derived.ChangeOld
import Derived.Below
import Derived.SizedLaws
import Derived.Carry
set_option linter.unusedVariables false
set_option linter.unusedSimpArgs false
set_option maxRecDepth 10000
namespace Go.Proofs.Ytbajieiodabdgaa.fnExactCompileFor
section
open Flat
theorem reckoned0 (x0 : Policy) (x1 : Int) (x2 : Int) (h0 : x0.fits) (hsp : compOk x0 x1 x2 = false) (k : Nat) (hk : 1152921504606846976 + 4 * ((x0.w)) + 60 ≤ k) : run E noExt k 10 [x0.enc false, .int .i64 x1, .int .i64 x2] [] = some (.bool true, []) := by
  by_cases b0 : (((x0.w) : Nat) : Int) ≤ 1048576
  ·
    have s0 := r_laws_szPolicy (fl := false) (k - 1) x0 (by omega) h0 1048576 (by omega) (by omega)
    have z0 : left 1048576 (x0.w) = 1048576 - (((x0.w) : Nat) : Int) := (left_le (by omega)).trans (by omega)
    have d0 : decide ((1048576 : Int) - (((x0.w) : Nat) : Int) < 0) = false := decide_eq_false (by omega)
    rw [z0] at s0
    have t0 := r_laws_toPolicy (fl := false) (k - 1) (by omega) x0 (by omega)
    have e0 := r_laws_eqPolicy (fl := true) (gl := true) (k - 1) (by omega) x0 x0 (by omega)
    have f0 := r_spec_CompileFor (k - 1) (by omega) x0 (by omega) x1 x2
    have f1 := r_impl_CompileFor (k - 1) (by omega) x0 (by omega) x1 x2
    have f2 := r_laws_markPolicy (k - 1) x0 (by omega) 1 (by have := sum_rule x0.rules; unfold Policy.w at *; omega)
    have f3 := (decide_eq_false (by omega) : decide ((1 : Int) + ((sumG ruleW x0.rules : Nat) : Int) < 0) = false)
    have hE := (compFor_no hsp).2
    have g2 := r_laws_eqCompiled (fl := true) (gl := true) (k - 1) (by omega) ⟨[], ⟨0, [], 0⟩, 0⟩ ⟨[], ⟨0, [], 0⟩, 0⟩ (by simp [Compiled.w, Diagram.w, wl])
    have g5 := r_laws_markCompiled_none (k - 1) (by omega) 1 (by omega)
    have g6 : run E noExt (k - 1) 56 [.agg [.sl true [], .int .i64 0, .sl true [], .int .i64 0, .int .i64 0], .int .i64 1] [] = some (.int .i64 1, []) := by
      have h := r_laws_heldCompiled (fl := true) (k - 1) ⟨[], ⟨0, [], 0⟩, 0⟩ leaves_nil (by simp -implicitDefEqProofs only [List.length_nil]; omega) (by simp) 1 (by simp [sumG])
      simpa [compM, enc_Compiled, sumG, mksG, marks_zero] using h
    obtain ⟨k, rfl⟩ : ∃ j, k = j + 1 := ⟨k - 1, by omega⟩
    rw [run_succ rfl rfl, body_eq (nt := 106) (fn := Go.Proofs.Try.f10) (by kernel_rfl) rfl rfl rfl rfl rfl rfl rfl rfl]
    simp -implicitDefEqProofs only [Nat.add_sub_cancel, decide_true, Policy.encT, enc_Compiled, enc_Policy, hE, hsp, List.map_nil, List.length_nil] at s0 t0 e0 f0 f1 f2 f3 g2 g5 g6
    simp -implicitDefEqProofs only [QS, QN, QG, QO, Go.Proofs.Try.f10, hE, hsp, Policy.encT, enc_Compiled, enc_Policy, s0, t0, e0, f0, f1, f2, f3, g2, g5, g6, d0, bne, SO, SH, frzO, frzE, AV.laid, AV.treeV, AV.treeC, St.laid, spent, AV.subs, AV.shut, AV.scal, AV.scals, evBuildSlice, elemsOf, zeroOK, evAppend, rowOf, noref, isRef, small, import_, AV.any, AV.anys, isPtr, finV, rename, noPtr, isBad, AV.isUndef, St.setRow, AV.shutV, rebuild, isAggV, evBuild, fillCells, evCutOwn, dedup, nodupB, idx, AV.rows, AV.rowss, AV.mapO, AV.mapOs, firstRegion, gc, keptBoxes, keptRows, renameB, AV.boxes, AV.boxess, look_cons, reduceCtorEq, evCall_mutOwn, evCall_mutAgg, evGive, giveRows, ioBoxes, mutArgs, roArgs, handArg, mutSlots, isPtrB, pairs, pairss, back_nil, back_cons, backO, backE, setBoxes, importB, mode_mut, mode_give, mode_io, mode_ro, List.zip_cons_cons, List.zip_nil_left, List.zip_nil_right, ite_self, ite_true, ite_false, finish_give, finish_mut1, finish_io0, finish_io1, finish_io2, finish_io3, finish_ioc, finI, finC, finW_ptr, evCall_mutNil, scals_ints, plains_ints, tscals_Rule, tscals_Choice, plan_10_10, ifEv_bool, gate_bool, gateP_bool, gateQ_bool, pick_bool, SN, evCutRow, Int.reduceToNat, id_eq, Int.reduceBEq, Int.reduceLE, Int.reduceLT, SS, one_ne2, num_ne2, TIS, MDS, wanted, numbered, plainC, plainS, evEq, eqK, evBox, evAlloc, evStore, evLoad, evFieldAddr, behind, takeVal, AV.cells, AV.isCell, ofCells, ofCell, Value.cells, Nat.reduceAdd, Nat.reduceEqDiff, Nat.reduceLT, Nat.reduceLeDiff, Nat.reduceMul, Nat.reduceSub, reduceIte]
    repeat' (split <;> (rename_i h; (try simp -implicitDefEqProofs only [Bool.not_eq_true', Bool.not_eq_false', decide_eq_true_eq, decide_eq_false_iff_not] at h); (try simp -implicitDefEqProofs only [QS, QN, QG, QO, *, hE, hsp, Policy.encT, enc_Compiled, enc_Policy, s0, t0, e0, f0, f1, f2, f3, g2, g5, g6, d0, bne, SO, SH, frzO, frzE, AV.laid, AV.treeV, AV.treeC, St.laid, spent, AV.subs, AV.shut, AV.scal, AV.scals, evBuildSlice, elemsOf, zeroOK, evAppend, rowOf, noref, isRef, small, import_, AV.any, AV.anys, isPtr, finV, rename, noPtr, isBad, AV.isUndef, St.setRow, AV.shutV, rebuild, isAggV, evBuild, fillCells, evCutOwn, dedup, nodupB, idx, AV.rows, AV.rowss, AV.mapO, AV.mapOs, firstRegion, gc, keptBoxes, keptRows, renameB, AV.boxes, AV.boxess, look_cons, reduceCtorEq, evCall_mutOwn, evCall_mutAgg, evGive, giveRows, ioBoxes, mutArgs, roArgs, handArg, mutSlots, isPtrB, pairs, pairss, back_nil, back_cons, backO, backE, setBoxes, importB, mode_mut, mode_give, mode_io, mode_ro, List.zip_cons_cons, List.zip_nil_left, List.zip_nil_right, ite_self, ite_true, ite_false, finish_give, finish_mut1, finish_io0, finish_io1, finish_io2, finish_io3, finish_ioc, finI, finC, finW_ptr, evCall_mutNil, scals_ints, plains_ints, tscals_Rule, tscals_Choice, plan_10_10, ifEv_bool, gate_bool, gateP_bool, gateQ_bool, pick_bool, SN, evCutRow, Int.reduceToNat, id_eq, Int.reduceBEq, Int.reduceLE, Int.reduceLT, SS, one_ne2, num_ne2, TIS, MDS, wanted, numbered, plainC, plainS, evEq, eqK, evBox, evAlloc, evStore, evLoad, evFieldAddr, behind, takeVal, AV.cells, AV.isCell, ofCells, ofCell, Value.cells, Nat.reduceAdd, Nat.reduceEqDiff, Nat.reduceLT, Nat.reduceLeDiff, Nat.reduceMul, Nat.reduceSub, reduceIte])))
  ·
    have s0 := r_laws_szPolicy (fl := false) (k - 1) x0 (by omega) h0 1048576 (by omega) (by omega)
    have z0 : left 1048576 (x0.w) = -1 := left_gt (by omega)
    rw [z0] at s0
    obtain ⟨k, rfl⟩ : ∃ j, k = j + 1 := ⟨k - 1, by omega⟩
    rw [run_succ rfl rfl, body_eq (nt := 106) (fn := Go.Proofs.Try.f10) (by kernel_rfl) rfl rfl rfl rfl rfl rfl rfl rfl]
    simp -implicitDefEqProofs only [Nat.add_sub_cancel, decide_true, Policy.encT, enc_Compiled, enc_Policy] at s0
    simp -implicitDefEqProofs only [QS, QN, QG, QO, Go.Proofs.Try.f10, Policy.encT, enc_Compiled, enc_Policy, s0, bne, SO, SH, frzO, frzE, AV.laid, AV.treeV, AV.treeC, St.laid, spent, AV.subs, AV.shut, AV.scal, AV.scals, evBuildSlice, elemsOf, zeroOK, evAppend, rowOf, noref, isRef, small, import_, AV.any, AV.anys, isPtr, finV, rename, noPtr, isBad, AV.isUndef, St.setRow, AV.shutV, rebuild, isAggV, evBuild, fillCells, evCutOwn, dedup, nodupB, idx, AV.rows, AV.rowss, AV.mapO, AV.mapOs, firstRegion, gc, keptBoxes, keptRows, renameB, AV.boxes, AV.boxess, plan_10_10, ifEv_bool, gate_bool, gateP_bool, gateQ_bool, pick_bool, SN, evCutRow, Int.reduceToNat, id_eq, Int.reduceBEq, Int.reduceLE, Int.reduceLT, SS, one_ne2, num_ne2, TIS, MDS, wanted, numbered, plainC, plainS, evEq, eqK, evBox, evAlloc, evStore, evLoad, evFieldAddr, behind, takeVal, AV.cells, AV.isCell, ofCells, ofCell, Value.cells, Nat.reduceAdd, Nat.reduceEqDiff, Nat.reduceLT, Nat.reduceLeDiff, Nat.reduceMul, Nat.reduceSub, reduceIte]
    repeat' (split <;> (rename_i h; (try simp -implicitDefEqProofs only [Bool.not_eq_true', Bool.not_eq_false', decide_eq_true_eq, decide_eq_false_iff_not] at h); (try simp -implicitDefEqProofs only [QS, QN, QG, QO, *, Policy.encT, enc_Compiled, enc_Policy, s0, bne, SO, SH, frzO, frzE, AV.laid, AV.treeV, AV.treeC, St.laid, spent, AV.subs, AV.shut, AV.scal, AV.scals, evBuildSlice, elemsOf, zeroOK, evAppend, rowOf, noref, isRef, small, import_, AV.any, AV.anys, isPtr, finV, rename, noPtr, isBad, AV.isUndef, St.setRow, AV.shutV, rebuild, isAggV, evBuild, fillCells, evCutOwn, dedup, nodupB, idx, AV.rows, AV.rowss, AV.mapO, AV.mapOs, firstRegion, gc, keptBoxes, keptRows, renameB, AV.boxes, AV.boxess, plan_10_10, ifEv_bool, gate_bool, gateP_bool, gateQ_bool, pick_bool, SN, evCutRow, Int.reduceToNat, id_eq, Int.reduceBEq, Int.reduceLE, Int.reduceLT, SS, one_ne2, num_ne2, TIS, MDS, wanted, numbered, plainC, plainS, evEq, eqK, evBox, evAlloc, evStore, evLoad, evFieldAddr, behind, takeVal, AV.cells, AV.isCell, ofCells, ofCell, Value.cells, Nat.reduceAdd, Nat.reduceEqDiff, Nat.reduceLT, Nat.reduceLeDiff, Nat.reduceMul, Nat.reduceSub, reduceIte])))
theorem reckoned1 (x0 : Policy) (x1 : Int) (x2 : Int) (h0 : x0.fits) (hsp : compOk x0 x1 x2 = true ∧ (compD x0 x1 x2).nodes = []) (k : Nat) (hk : 1152921504606846976 + 4 * ((x0.w)) + 60 ≤ k) : run E noExt k 10 [x0.enc false, .int .i64 x1, .int .i64 x2] [] = some (.bool true, []) := by
  by_cases b0 : (((x0.w) : Nat) : Int) ≤ 1048576
  ·
    have s0 := r_laws_szPolicy (fl := false) (k - 1) x0 (by omega) h0 1048576 (by omega) (by omega)
    have z0 : left 1048576 (x0.w) = 1048576 - (((x0.w) : Nat) : Int) := (left_le (by omega)).trans (by omega)
    have d0 : decide ((1048576 : Int) - (((x0.w) : Nat) : Int) < 0) = false := decide_eq_false (by omega)
    rw [z0] at s0
    have t0 := r_laws_toPolicy (fl := false) (k - 1) (by omega) x0 (by omega)
    have e0 := r_laws_eqPolicy (fl := true) (gl := true) (k - 1) (by omega) x0 x0 (by omega)
    have f0 := r_spec_CompileFor (k - 1) (by omega) x0 (by omega) x1 x2
    have f1 := r_impl_CompileFor (k - 1) (by omega) x0 (by omega) x1 x2
    have f2 := r_laws_markPolicy (k - 1) x0 (by omega) 1 (by have := sum_rule x0.rules; unfold Policy.w at *; omega)
    have f3 := (decide_eq_false (by omega) : decide ((1 : Int) + ((sumG ruleW x0.rules : Nat) : Int) < 0) = false)
    have hE := (compFor_yes hsp.1).2.1
    have hn := hsp.2
    have hsp1 := hsp.1
    have hat := (compFor_yes hsp.1).2.2
    have hL := atomsOf_leaves x0 x1 x2
    rw [hn, encR_nil] at hE
    have g2 := r_laws_eqCompiled (fl := true) (gl := true) (k - 1) (by omega) ⟨atomsOf x0 x1 x2, compD x0 x1 x2, x0.version⟩ ⟨atomsOf x0 x1 x2, compD x0 x1 x2, x0.version⟩ (by simp -implicitDefEqProofs only [Compiled.w, Diagram.w, hn, wl_leaves hL, List.length_nil]; omega)
    have g5 := r_laws_markCompiledN (k - 1) (by omega) ⟨atomsOf x0 x1 x2, compD x0 x1 x2, x0.version⟩ hL hn 1 (by simp -implicitDefEqProofs only [sum_leaves hL]; omega)
    have g6 := r_laws_heldCompiled (fl := true) (k - 1) ⟨atomsOf x0 x1 x2, compD x0 x1 x2, x0.version⟩ hL (by simp only; omega) (by simp -implicitDefEqProofs only [hn, List.length_nil]; omega) 1 (by simp -implicitDefEqProofs only [sum_leaves hL]; omega)
    have hz0 : ∀ y : Int, y + ((3 * 0 : Nat) : Int) = y := fun y => by simp
    have h9 : decide ((1 : Int) + ((sumG condW (atomsOf x0 x1 x2) : Nat) : Int) < 0) = false := decide_eq_false (by omega)
    have hs1 := scals_leaves hL
    have hs2 := scals_leaves (leaves_mks (z := 1) hL)
    simp -implicitDefEqProofs only [compM, enc_Compiled, enc_Diagram, hn, List.length_nil, marks_zero, hz0] at g2 g5 g6
    obtain ⟨k, rfl⟩ : ∃ j, k = j + 1 := ⟨k - 1, by omega⟩
    rw [run_succ rfl rfl, body_eq (nt := 106) (fn := Go.Proofs.Try.f10) (by kernel_rfl) rfl rfl rfl rfl rfl rfl rfl rfl]
    simp -implicitDefEqProofs only [Nat.add_sub_cancel, decide_true, Policy.encT, enc_Compiled, enc_Policy, hE, hsp1, hn, hs1, hs2, h9, List.map_nil] at s0 t0 e0 f0 f1 f2 f3 g2 g5 g6
    simp -implicitDefEqProofs only [QS, QN, QG, QO, Go.Proofs.Try.f10, hE, hsp1, hn, hs1, hs2, h9, Policy.encT, enc_Compiled, enc_Policy, s0, t0, e0, f0, f1, f2, f3, g2, g5, g6, d0, bne, SO, SH, frzO, frzE, AV.laid, AV.treeV, AV.treeC, St.laid, spent, AV.subs, AV.shut, AV.scal, AV.scals, evBuildSlice, elemsOf, zeroOK, evAppend, rowOf, noref, isRef, small, import_, AV.any, AV.anys, isPtr, finV, rename, noPtr, isBad, AV.isUndef, St.setRow, AV.shutV, rebuild, isAggV, evBuild, fillCells, evCutOwn, dedup, nodupB, idx, AV.rows, AV.rowss, AV.mapO, AV.mapOs, firstRegion, gc, keptBoxes, keptRows, renameB, AV.boxes, AV.boxess, look_cons, reduceCtorEq, evCall_mutOwn, evCall_mutAgg, evGive, giveRows, ioBoxes, mutArgs, roArgs, handArg, mutSlots, isPtrB, pairs, pairss, back_nil, back_cons, backO, backE, setBoxes, importB, mode_mut, mode_give, mode_io, mode_ro, List.zip_cons_cons, List.zip_nil_left, List.zip_nil_right, ite_self, ite_true, ite_false, finish_give, finish_mut1, finish_io0, finish_io1, finish_io2, finish_io3, finish_ioc, finI, finC, finW_ptr, evCall_mutNil, scals_ints, plains_ints, tscals_Rule, tscals_Choice, plan_10_10, ifEv_bool, gate_bool, gateP_bool, gateQ_bool, pick_bool, SN, evCutRow, Int.reduceToNat, id_eq, Int.reduceBEq, Int.reduceLE, Int.reduceLT, SS, one_ne2, num_ne2, TIS, MDS, wanted, numbered, plainC, plainS, evEq, eqK, evBox, evAlloc, evStore, evLoad, evFieldAddr, behind, takeVal, AV.cells, AV.isCell, ofCells, ofCell, Value.cells, Nat.reduceAdd, Nat.reduceEqDiff, Nat.reduceLT, Nat.reduceLeDiff, Nat.reduceMul, Nat.reduceSub, reduceIte]
    repeat' (split <;> (rename_i h; (try simp -implicitDefEqProofs only [Bool.not_eq_true', Bool.not_eq_false', decide_eq_true_eq, decide_eq_false_iff_not] at h); (try simp -implicitDefEqProofs only [QS, QN, QG, QO, *, hE, hsp1, hn, hs1, hs2, h9, Policy.encT, enc_Compiled, enc_Policy, s0, t0, e0, f0, f1, f2, f3, g2, g5, g6, d0, bne, SO, SH, frzO, frzE, AV.laid, AV.treeV, AV.treeC, St.laid, spent, AV.subs, AV.shut, AV.scal, AV.scals, evBuildSlice, elemsOf, zeroOK, evAppend, rowOf, noref, isRef, small, import_, AV.any, AV.anys, isPtr, finV, rename, noPtr, isBad, AV.isUndef, St.setRow, AV.shutV, rebuild, isAggV, evBuild, fillCells, evCutOwn, dedup, nodupB, idx, AV.rows, AV.rowss, AV.mapO, AV.mapOs, firstRegion, gc, keptBoxes, keptRows, renameB, AV.boxes, AV.boxess, look_cons, reduceCtorEq, evCall_mutOwn, evCall_mutAgg, evGive, giveRows, ioBoxes, mutArgs, roArgs, handArg, mutSlots, isPtrB, pairs, pairss, back_nil, back_cons, backO, backE, setBoxes, importB, mode_mut, mode_give, mode_io, mode_ro, List.zip_cons_cons, List.zip_nil_left, List.zip_nil_right, ite_self, ite_true, ite_false, finish_give, finish_mut1, finish_io0, finish_io1, finish_io2, finish_io3, finish_ioc, finI, finC, finW_ptr, evCall_mutNil, scals_ints, plains_ints, tscals_Rule, tscals_Choice, plan_10_10, ifEv_bool, gate_bool, gateP_bool, gateQ_bool, pick_bool, SN, evCutRow, Int.reduceToNat, id_eq, Int.reduceBEq, Int.reduceLE, Int.reduceLT, SS, one_ne2, num_ne2, TIS, MDS, wanted, numbered, plainC, plainS, evEq, eqK, evBox, evAlloc, evStore, evLoad, evFieldAddr, behind, takeVal, AV.cells, AV.isCell, ofCells, ofCell, Value.cells, Nat.reduceAdd, Nat.reduceEqDiff, Nat.reduceLT, Nat.reduceLeDiff, Nat.reduceMul, Nat.reduceSub, reduceIte])))
  ·
    have s0 := r_laws_szPolicy (fl := false) (k - 1) x0 (by omega) h0 1048576 (by omega) (by omega)
    have z0 : left 1048576 (x0.w) = -1 := left_gt (by omega)
    rw [z0] at s0
    obtain ⟨k, rfl⟩ : ∃ j, k = j + 1 := ⟨k - 1, by omega⟩
    rw [run_succ rfl rfl, body_eq (nt := 106) (fn := Go.Proofs.Try.f10) (by kernel_rfl) rfl rfl rfl rfl rfl rfl rfl rfl]
    simp -implicitDefEqProofs only [Nat.add_sub_cancel, decide_true, Policy.encT, enc_Compiled, enc_Policy] at s0
    simp -implicitDefEqProofs only [QS, QN, QG, QO, Go.Proofs.Try.f10, Policy.encT, enc_Compiled, enc_Policy, s0, bne, SO, SH, frzO, frzE, AV.laid, AV.treeV, AV.treeC, St.laid, spent, AV.subs, AV.shut, AV.scal, AV.scals, evBuildSlice, elemsOf, zeroOK, evAppend, rowOf, noref, isRef, small, import_, AV.any, AV.anys, isPtr, finV, rename, noPtr, isBad, AV.isUndef, St.setRow, AV.shutV, rebuild, isAggV, evBuild, fillCells, evCutOwn, dedup, nodupB, idx, AV.rows, AV.rowss, AV.mapO, AV.mapOs, firstRegion, gc, keptBoxes, keptRows, renameB, AV.boxes, AV.boxess, plan_10_10, ifEv_bool, gate_bool, gateP_bool, gateQ_bool, pick_bool, SN, evCutRow, Int.reduceToNat, id_eq, Int.reduceBEq, Int.reduceLE, Int.reduceLT, SS, one_ne2, num_ne2, TIS, MDS, wanted, numbered, plainC, plainS, evEq, eqK, evBox, evAlloc, evStore, evLoad, evFieldAddr, behind, takeVal, AV.cells, AV.isCell, ofCells, ofCell, Value.cells, Nat.reduceAdd, Nat.reduceEqDiff, Nat.reduceLT, Nat.reduceLeDiff, Nat.reduceMul, Nat.reduceSub, reduceIte]
    repeat' (split <;> (rename_i h; (try simp -implicitDefEqProofs only [Bool.not_eq_true', Bool.not_eq_false', decide_eq_true_eq, decide_eq_false_iff_not] at h); (try simp -implicitDefEqProofs only [QS, QN, QG, QO, *, Policy.encT, enc_Compiled, enc_Policy, s0, bne, SO, SH, frzO, frzE, AV.laid, AV.treeV, AV.treeC, St.laid, spent, AV.subs, AV.shut, AV.scal, AV.scals, evBuildSlice, elemsOf, zeroOK, evAppend, rowOf, noref, isRef, small, import_, AV.any, AV.anys, isPtr, finV, rename, noPtr, isBad, AV.isUndef, St.setRow, AV.shutV, rebuild, isAggV, evBuild, fillCells, evCutOwn, dedup, nodupB, idx, AV.rows, AV.rowss, AV.mapO, AV.mapOs, firstRegion, gc, keptBoxes, keptRows, renameB, AV.boxes, AV.boxess, plan_10_10, ifEv_bool, gate_bool, gateP_bool, gateQ_bool, pick_bool, SN, evCutRow, Int.reduceToNat, id_eq, Int.reduceBEq, Int.reduceLE, Int.reduceLT, SS, one_ne2, num_ne2, TIS, MDS, wanted, numbered, plainC, plainS, evEq, eqK, evBox, evAlloc, evStore, evLoad, evFieldAddr, behind, takeVal, AV.cells, AV.isCell, ofCells, ofCell, Value.cells, Nat.reduceAdd, Nat.reduceEqDiff, Nat.reduceLT, Nat.reduceLeDiff, Nat.reduceMul, Nat.reduceSub, reduceIte])))
theorem reckoned2 (x0 : Policy) (x1 : Int) (x2 : Int) (h0 : x0.fits) (hsp : compOk x0 x1 x2 = true ∧ (compD x0 x1 x2).nodes ≠ []) (k : Nat) (hk : 1152921504606846976 + 4 * ((x0.w)) + 60 ≤ k) : run E noExt k 10 [x0.enc false, .int .i64 x1, .int .i64 x2] [] = some (.bool true, []) := by
  by_cases b0 : (((x0.w) : Nat) : Int) ≤ 1048576
  ·
    have s0 := r_laws_szPolicy (fl := false) (k - 1) x0 (by omega) h0 1048576 (by omega) (by omega)
    have z0 : left 1048576 (x0.w) = 1048576 - (((x0.w) : Nat) : Int) := (left_le (by omega)).trans (by omega)
    have d0 : decide ((1048576 : Int) - (((x0.w) : Nat) : Int) < 0) = false := decide_eq_false (by omega)
    rw [z0] at s0
    have t0 := r_laws_toPolicy (fl := false) (k - 1) (by omega) x0 (by omega)
    have e0 := r_laws_eqPolicy (fl := true) (gl := true) (k - 1) (by omega) x0 x0 (by omega)
    have f0 := r_spec_CompileFor (k - 1) (by omega) x0 (by omega) x1 x2
    have f1 := r_impl_CompileFor (k - 1) (by omega) x0 (by omega) x1 x2
    have f2 := r_laws_markPolicy (k - 1) x0 (by omega) 1 (by have := sum_rule x0.rules; unfold Policy.w at *; omega)
    have f3 := (decide_eq_false (by omega) : decide ((1 : Int) + ((sumG ruleW x0.rules : Nat) : Int) < 0) = false)
    have hE := (compFor_yes hsp.1).2.1
    have hsp1 := hsp.1
    have hat := (compFor_yes hsp.1).2.2
    have hL := atomsOf_leaves x0 x1 x2
    rw [encR_ne hsp.2] at hE
    have hdl := compD_len x0 x1 x2
    have g2 := r_laws_eqCompiled (fl := true) (gl := true) (k - 1) (by omega) ⟨atomsOf x0 x1 x2, compD x0 x1 x2, x0.version⟩ ⟨atomsOf x0 x1 x2, compD x0 x1 x2, x0.version⟩ (by simp -implicitDefEqProofs only [Compiled.w, Diagram.w, wl_leaves hL]; omega)
    have g5 := r_laws_markCompiledO (k - 1) (by omega) ⟨atomsOf x0 x1 x2, compD x0 x1 x2, x0.version⟩ hL (by simp only; omega) 1 (by simp -implicitDefEqProofs only [sum_leaves hL]; omega)
    have g6 := r_laws_heldCompiled (fl := true) (k - 1) ⟨atomsOf x0 x1 x2, compD x0 x1 x2, x0.version⟩ hL (by simp only; omega) (by simp only; omega) 1 (by simp -implicitDefEqProofs only [sum_leaves hL]; omega)
    have h9 : decide ((1 : Int) + ((sumG condW (atomsOf x0 x1 x2) : Nat) : Int) + ((3 * (compD x0 x1 x2).nodes.length : Nat) : Int) < 0) = false := decide_eq_false (by omega)
    have hs1 := scals_leaves hL
    have hs2 := scals_leaves (leaves_mks (z := 1) hL)
    simp -implicitDefEqProofs only [compM, enc_Compiled, enc_Diagram] at g2 g5 g6
    obtain ⟨k, rfl⟩ : ∃ j, k = j + 1 := ⟨k - 1, by omega⟩
    rw [run_succ rfl rfl, body_eq (nt := 106) (fn := Go.Proofs.Try.f10) (by kernel_rfl) rfl rfl rfl rfl rfl rfl rfl rfl]
    simp -implicitDefEqProofs only [Nat.add_sub_cancel, decide_true, Policy.encT, enc_Compiled, enc_Policy, hE, hsp1, hs1, hs2, h9] at s0 t0 e0 f0 f1 f2 f3 g2 g5 g6
    simp -implicitDefEqProofs only [QS, QN, QG, QO, Go.Proofs.Try.f10, hE, hsp1, hs1, hs2, h9, Policy.encT, enc_Compiled, enc_Policy, s0, t0, e0, f0, f1, f2, f3, g2, g5, g6, d0, bne, SO, SH, frzO, frzE, AV.laid, AV.treeV, AV.treeC, St.laid, spent, AV.subs, AV.shut, AV.scal, AV.scals, evBuildSlice, elemsOf, zeroOK, evAppend, rowOf, noref, isRef, small, import_, AV.any, AV.anys, isPtr, finV, rename, noPtr, isBad, AV.isUndef, St.setRow, AV.shutV, rebuild, isAggV, evBuild, fillCells, evCutOwn, dedup, nodupB, idx, AV.rows, AV.rowss, AV.mapO, AV.mapOs, firstRegion, gc, keptBoxes, keptRows, renameB, AV.boxes, AV.boxess, look_cons, reduceCtorEq, evCall_mutOwn, evCall_mutAgg, evGive, giveRows, ioBoxes, mutArgs, roArgs, handArg, mutSlots, isPtrB, pairs, pairss, back_nil, back_cons, backO, backE, setBoxes, importB, mode_mut, mode_give, mode_io, mode_ro, List.zip_cons_cons, List.zip_nil_left, List.zip_nil_right, ite_self, ite_true, ite_false, finish_give, finish_mut1, finish_io0, finish_io1, finish_io2, finish_io3, finish_ioc, finI, finC, finW_ptr, evCall_mutNil, scals_ints, plains_ints, tscals_Rule, tscals_Choice, plan_10_10, ifEv_bool, gate_bool, gateP_bool, gateQ_bool, pick_bool, SN, evCutRow, Int.reduceToNat, id_eq, Int.reduceBEq, Int.reduceLE, Int.reduceLT, SS, one_ne2, num_ne2, TIS, MDS, wanted, numbered, plainC, plainS, evEq, eqK, evBox, evAlloc, evStore, evLoad, evFieldAddr, behind, takeVal, AV.cells, AV.isCell, ofCells, ofCell, Value.cells, Nat.reduceAdd, Nat.reduceEqDiff, Nat.reduceLT, Nat.reduceLeDiff, Nat.reduceMul, Nat.reduceSub, reduceIte]
    repeat' (split <;> (rename_i h; (try simp -implicitDefEqProofs only [Bool.not_eq_true', Bool.not_eq_false', decide_eq_true_eq, decide_eq_false_iff_not] at h); (try simp -implicitDefEqProofs only [QS, QN, QG, QO, *, hE, hsp1, hs1, hs2, h9, Policy.encT, enc_Compiled, enc_Policy, s0, t0, e0, f0, f1, f2, f3, g2, g5, g6, d0, bne, SO, SH, frzO, frzE, AV.laid, AV.treeV, AV.treeC, St.laid, spent, AV.subs, AV.shut, AV.scal, AV.scals, evBuildSlice, elemsOf, zeroOK, evAppend, rowOf, noref, isRef, small, import_, AV.any, AV.anys, isPtr, finV, rename, noPtr, isBad, AV.isUndef, St.setRow, AV.shutV, rebuild, isAggV, evBuild, fillCells, evCutOwn, dedup, nodupB, idx, AV.rows, AV.rowss, AV.mapO, AV.mapOs, firstRegion, gc, keptBoxes, keptRows, renameB, AV.boxes, AV.boxess, look_cons, reduceCtorEq, evCall_mutOwn, evCall_mutAgg, evGive, giveRows, ioBoxes, mutArgs, roArgs, handArg, mutSlots, isPtrB, pairs, pairss, back_nil, back_cons, backO, backE, setBoxes, importB, mode_mut, mode_give, mode_io, mode_ro, List.zip_cons_cons, List.zip_nil_left, List.zip_nil_right, ite_self, ite_true, ite_false, finish_give, finish_mut1, finish_io0, finish_io1, finish_io2, finish_io3, finish_ioc, finI, finC, finW_ptr, evCall_mutNil, scals_ints, plains_ints, tscals_Rule, tscals_Choice, plan_10_10, ifEv_bool, gate_bool, gateP_bool, gateQ_bool, pick_bool, SN, evCutRow, Int.reduceToNat, id_eq, Int.reduceBEq, Int.reduceLE, Int.reduceLT, SS, one_ne2, num_ne2, TIS, MDS, wanted, numbered, plainC, plainS, evEq, eqK, evBox, evAlloc, evStore, evLoad, evFieldAddr, behind, takeVal, AV.cells, AV.isCell, ofCells, ofCell, Value.cells, Nat.reduceAdd, Nat.reduceEqDiff, Nat.reduceLT, Nat.reduceLeDiff, Nat.reduceMul, Nat.reduceSub, reduceIte])))
  ·
    have s0 := r_laws_szPolicy (fl := false) (k - 1) x0 (by omega) h0 1048576 (by omega) (by omega)
    have z0 : left 1048576 (x0.w) = -1 := left_gt (by omega)
    rw [z0] at s0
    obtain ⟨k, rfl⟩ : ∃ j, k = j + 1 := ⟨k - 1, by omega⟩
    rw [run_succ rfl rfl, body_eq (nt := 106) (fn := Go.Proofs.Try.f10) (by kernel_rfl) rfl rfl rfl rfl rfl rfl rfl rfl]
    simp -implicitDefEqProofs only [Nat.add_sub_cancel, decide_true, Policy.encT, enc_Compiled, enc_Policy] at s0
    simp -implicitDefEqProofs only [QS, QN, QG, QO, Go.Proofs.Try.f10, Policy.encT, enc_Compiled, enc_Policy, s0, bne, SO, SH, frzO, frzE, AV.laid, AV.treeV, AV.treeC, St.laid, spent, AV.subs, AV.shut, AV.scal, AV.scals, evBuildSlice, elemsOf, zeroOK, evAppend, rowOf, noref, isRef, small, import_, AV.any, AV.anys, isPtr, finV, rename, noPtr, isBad, AV.isUndef, St.setRow, AV.shutV, rebuild, isAggV, evBuild, fillCells, evCutOwn, dedup, nodupB, idx, AV.rows, AV.rowss, AV.mapO, AV.mapOs, firstRegion, gc, keptBoxes, keptRows, renameB, AV.boxes, AV.boxess, plan_10_10, ifEv_bool, gate_bool, gateP_bool, gateQ_bool, pick_bool, SN, evCutRow, Int.reduceToNat, id_eq, Int.reduceBEq, Int.reduceLE, Int.reduceLT, SS, one_ne2, num_ne2, TIS, MDS, wanted, numbered, plainC, plainS, evEq, eqK, evBox, evAlloc, evStore, evLoad, evFieldAddr, behind, takeVal, AV.cells, AV.isCell, ofCells, ofCell, Value.cells, Nat.reduceAdd, Nat.reduceEqDiff, Nat.reduceLT, Nat.reduceLeDiff, Nat.reduceMul, Nat.reduceSub, reduceIte]
    repeat' (split <;> (rename_i h; (try simp -implicitDefEqProofs only [Bool.not_eq_true', Bool.not_eq_false', decide_eq_true_eq, decide_eq_false_iff_not] at h); (try simp -implicitDefEqProofs only [QS, QN, QG, QO, *, Policy.encT, enc_Compiled, enc_Policy, s0, bne, SO, SH, frzO, frzE, AV.laid, AV.treeV, AV.treeC, St.laid, spent, AV.subs, AV.shut, AV.scal, AV.scals, evBuildSlice, elemsOf, zeroOK, evAppend, rowOf, noref, isRef, small, import_, AV.any, AV.anys, isPtr, finV, rename, noPtr, isBad, AV.isUndef, St.setRow, AV.shutV, rebuild, isAggV, evBuild, fillCells, evCutOwn, dedup, nodupB, idx, AV.rows, AV.rowss, AV.mapO, AV.mapOs, firstRegion, gc, keptBoxes, keptRows, renameB, AV.boxes, AV.boxess, plan_10_10, ifEv_bool, gate_bool, gateP_bool, gateQ_bool, pick_bool, SN, evCutRow, Int.reduceToNat, id_eq, Int.reduceBEq, Int.reduceLE, Int.reduceLT, SS, one_ne2, num_ne2, TIS, MDS, wanted, numbered, plainC, plainS, evEq, eqK, evBox, evAlloc, evStore, evLoad, evFieldAddr, behind, takeVal, AV.cells, AV.isCell, ofCells, ofCell, Value.cells, Nat.reduceAdd, Nat.reduceEqDiff, Nat.reduceLT, Nat.reduceLeDiff, Nat.reduceMul, Nat.reduceSub, reduceIte])))
theorem reckoned (x0 : Policy) (x1 : Int) (x2 : Int) (h0 : x0.fits) (k : Nat) (hk : 1152921504606846976 + 4 * ((x0.w)) + 60 ≤ k) : run E noExt k 10 [x0.enc false, .int .i64 x1, .int .i64 x2] [] = some (.bool true, []) := by
  cases h : compOk x0 x1 x2
  · exact reckoned0 x0 x1 x2 h0 h k hk
  · rcases Classical.em ((compD x0 x1 x2).nodes = []) with h2 | h2
    · exact reckoned1 x0 x1 x2 h0 ⟨h, h2⟩ k hk
    · exact reckoned2 x0 x1 x2 h0 ⟨h, h2⟩ k hk
end
open Go.ChangeShapes Go.WideShapes Go.ChangeAt Go.RowKit Flat
theorem own : ownKnob Try.prog.godebug = none := by kernel_rfl
theorem laidOut : laidOutB Try.prog = true := by kernel_rfl
set_option maxRecDepth 100000 in
theorem lifted (os : Os) (started : os.Started) (H : Type) (enc : TypeId × Value → H) :
    ReturnsInHanded {} Try.checked os 10 .any (Rows.fnExactCompileForSpec.pre6 enc Try.prog Try.f10 Rows.fnExactCompileForRow.domain false) (Rows.fnExactCompileForSpec.post enc Try.prog Try.f10 false true false false) := by
  refine returnsInHanded_of_change_sized (C := Try.checked) own started (by kernel_rfl) Try.func10
    (ChangeSpec.witness6 (enc := enc) (C := Try.checked) false ⟨#[], #[.agg #[.int .i64 0, .slice none 0 0], .int .i64 0, .int .i64 0], []⟩ 8 (by kernel_rfl) (by kernel_rfl) (by kernel_rfl) (by kernel_rfl)) ?_
  intro W base args ds gs before hval0 hW hcnd hsz0 _
  have hsz : (DataW.weightsEach Try.prog (Try.f10.params.toList ++ Rows.fnExactCompileForSpec.plain.varTypes Try.prog) (ds ++ gs)).all (· ≤ reachBytes) = true := hsz0
  have hval : ∀ (j : Nat) t v, Try.f10.params[j]? = some t → args[j]? = some v → Value.okWide Try.prog W .any base t v := hval0
  have hW' := hW
  obtain ⟨p, q, hA0, hV, rfl, hfz, hnd⟩ := hW
  have hA : DataW.TrodAll enc Try.prog W 0 (fun _ => true) true Try.f10.params.toList args.toList ds p := hA0
  rw [Try.params10] at hA hval hsz
  obtain ⟨v0, vs0, d0, ds0, p0, q0, hargs, rfl, rfl, h0, r0⟩ := trodAll_cons hA
  obtain ⟨v1, vs1, d1, ds1, p1, q1, rfl, rfl, rfl, h1, r1⟩ := trodAll_cons r0
  obtain ⟨v2, vs2, d2, ds2, p2, q2, rfl, rfl, rfl, h2, r2⟩ := trodAll_cons r1
  obtain ⟨rfl, rfl, rfl⟩ := trodAll_nil r2
  obtain rfl : args = #[v0, v1, v2] := by cases args; simp_all
  obtain ⟨rfl, rfl⟩ := trodVars_none hV
  have lt0 : ∀ x ∈ p0, x.block < W.heap.size := by obtain ⟨m, hm⟩ := h0; exact DataW.trod_lt m _ _ _ hm
  obtain ⟨n0, a0, ty0, ro0⟩ := handed (P := Try.prog) (ts := [24, 3, 22, 132, 41, 39]) (by kernel_rfl) (by kernel_rfl) (hval 0 24 v0 rfl rfl) h0 (weights_each hsz 0 24 d0 rfl rfl)
  obtain ⟨x0, rfl, fit0⟩ := shape_24 n0 a0 ty0
  have lt1 : ∀ x ∈ p1, x.block < W.heap.size := by obtain ⟨m, hm⟩ := h1; exact DataW.trod_lt m _ _ _ hm
  obtain ⟨n1, a1, ty1, ro1⟩ := handed (P := Try.prog) (ts := [3]) (by kernel_rfl) (by kernel_rfl) (hval 1 3 v1 rfl rfl) h1 (weights_each hsz 1 3 d1 rfl rfl)
  obtain ⟨x1, rfl, _⟩ := typed_int Try.underlying3 ty1
  have lt2 : ∀ x ∈ p2, x.block < W.heap.size := by obtain ⟨m, hm⟩ := h2; exact DataW.trod_lt m _ _ _ hm
  obtain ⟨n2, a2, ty2, ro2⟩ := handed (P := Try.prog) (ts := [3]) (by kernel_rfl) (by kernel_rfl) (hval 2 3 v2 rfl rfl) h2 (weights_each hsz 2 3 d2 rfl rfl)
  obtain ⟨x2, rfl, _⟩ := typed_int Try.underlying3 ty2
  refine (law_ok mixed sound (ext := noExt) hext (reckoned x0 x1 x2 fit0 _ (Nat.le_refl _)) (args := #[v0, v1, v2]) (W := W) rfl (fun j hj => by
    rcases j with _ | _ | _ | j
    · exact ro0
    · exact ro1
    · exact ro2
    · simp at hj; omega)).mono fun e W' ⟨he, bel⟩ => ?_
  subst he
  exact ⟨_, rfl, _, _, _, [], _, [], hW', trodAll_mk1 (shut_bool Try.underlying4 _), (trodAll_cons_mk (Below.trod laidOut (by kernel_rfl) (of_decide_eq_true (by kernel_rfl)) h0 bel lt0) (trodAll_cons_mk (Below.trod laidOut (by kernel_rfl) (of_decide_eq_true (by kernel_rfl)) h1 bel lt1) (trodAll_cons_mk (Below.trod laidOut (by kernel_rfl) (of_decide_eq_true (by kernel_rfl)) h2 bel lt2) trodAll_mk0))), rfl, bel.frame _, fun h => by cases h⟩
theorem over : Rows.fnExactCompileForRow.holds Try.pinned (OpenSpec.ofChange Rows.fnExactCompileForSpec) :=
  OpenClaim.holds_of_wide 10 Try.f10 rfl rfl rfl rfl rfl rfl rfl ⟨rfl, rfl, rfl, rfl, rfl⟩ rfl rfl rfl rfl rfl (by kernel_rfl) Try.func10 (by kernel_rfl)
    (of_decide_eq_true (by kernel_rfl)) (by unfold Func.isWrapper; first | (rw [if_pos (by decide +kernel)]; kernel_rfl) | (rw [if_neg (by decide +kernel)]; exact ⟨rfl, rfl⟩))
    (fun os started H enc _ => lifted os started H enc)
theorem proved : Rows.FnExactCompileForSaid := over
#print axioms proved
end Go.Proofs.Ytbajieiodabdgaa.fnExactCompileFor
namespace Go.Proofs.Ytbajieiodabdgaa
/-- The row, under a short name, for the claim. -/
theorem fnExactCompileFor_holds : Rows.FnExactCompileForSaid := fnExactCompileFor.proved
end Go.Proofs.Ytbajieiodabdgaa
