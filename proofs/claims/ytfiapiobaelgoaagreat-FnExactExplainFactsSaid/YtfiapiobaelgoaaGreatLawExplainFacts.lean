/-
The law of ExplainFacts: it answers true, whatever it is handed.
-/
import Derived.Test.YtfiapiobaelgoaaGreatRows
import Derived.Test.YtfiapiobaelgoaaGreatEqS
import Derived.Test.YtfiapiobaelgoaaGreatEqZ
import Derived.Test.YtfiapiobaelgoaaGreatEqT
import Derived.Test.YtfiapiobaelgoaaGreatEqQ
import Derived.Test.YtfiapiobaelgoaaGreatEqEW
import Derived.Test.YtfiapiobaelgoaaGreatEqYT
import Derived.Test.YtfiapiobaelgoaaGreatEqX
import Derived.WalkKit
import Derived.ProofKit
import Derived.OpenShut
import Derived.ShutString
import Derived.ChangeOld
import Derived.Below
import Derived.SizedLaws
import Derived.Carry
set_option linter.unusedVariables false
set_option linter.unusedSimpArgs false
set_option maxRecDepth 10000
namespace Go.Proofs.YtfiapiobaelgoaaGreat.fnExactExplainFacts
section
open Flat
theorem reckoned (x0 : List Includes) (x1 : List Fact) (x2 : Policy) (x3 : Request) (h0 : FitL (fun _ => True) x0) (h1 : FitL (fun _ => True) x1) (h2 : x2.fits) (k : Nat) (hk : 1152921504606846976 + 4 * ((x0.length) + (x1.length) + (x2.w)) + 60 ≤ k) : run E noExt k 3 [.sl false (x0.map (Includes.enc false)), .sl false (x1.map (Fact.enc false)), x2.enc false, x3.enc false] [] = some (.bool true, []) := by
  by_cases b0 : (((x0.length) : Nat) : Int) ≤ 1048576
  ·
    by_cases b1 : (((x0.length) + (x1.length) : Nat) : Int) ≤ 1048576
    ·
      by_cases b2 : (((x0.length) + (x1.length) + (x2.w) : Nat) : Int) ≤ 1048576
      ·
        have s0 := r_laws_szIncludesS (fl := false) (k - 1) x0 (by omega) h0 1048576 (by omega) (by omega)
        have z0 : left 1048576 (x0.length) = 1048576 - (((x0.length) : Nat) : Int) := (left_le (by omega)).trans (by omega)
        have d0 : decide ((1048576 : Int) - (((x0.length) : Nat) : Int) < 0) = false := decide_eq_false (by omega)
        rw [z0] at s0
        have s1 := r_laws_szFactS (fl := false) (k - 1) x1 (by omega) h1 (1048576 - (((x0.length) : Nat) : Int)) (by omega) (by omega)
        have z1 : left (1048576 - (((x0.length) : Nat) : Int)) (x1.length) = 1048576 - (((x0.length) + (x1.length) : Nat) : Int) := (left_le (by omega)).trans (by omega)
        have d1 : decide ((1048576 : Int) - (((x0.length) + (x1.length) : Nat) : Int) < 0) = false := decide_eq_false (by omega)
        rw [z1] at s1
        have s2 := r_laws_szPolicy (fl := false) (k - 1) x2 (by omega) h2 (1048576 - (((x0.length) + (x1.length) : Nat) : Int)) (by omega) (by omega)
        have z2 : left (1048576 - (((x0.length) + (x1.length) : Nat) : Int)) (x2.w) = 1048576 - (((x0.length) + (x1.length) + (x2.w) : Nat) : Int) := (left_le (by omega)).trans (by omega)
        have d2 : decide ((1048576 : Int) - (((x0.length) + (x1.length) + (x2.w) : Nat) : Int) < 0) = false := decide_eq_false (by omega)
        rw [z2] at s2
        have t0 := r_laws_toIncludesS (fl := false) (k - 1) (by omega) x0 (by omega)
        have t1 := r_laws_toFactS (fl := false) (k - 1) (by omega) x1 (by omega)
        have t2 := r_laws_toPolicy (fl := false) (k - 1) (by omega) x2 (by omega)
        have t3 := r_laws_toRequest (fl := false) (k - 1) (by omega) x3
        have e0 := r_laws_eqIncludesS (fl := true) (gl := true) (k - 1) (by omega) x0 x0 (by omega)
        have e1 := r_laws_eqFactS (fl := true) (gl := true) (k - 1) (by omega) x1 x1 (by omega)
        have e2 := r_laws_eqPolicy (fl := true) (gl := true) (k - 1) (by omega) x2 x2 (by omega)
        have f0 := r_spec_ExplainFacts (k - 1) (by omega) x0 (by omega) x1 (by omega) x2 (by omega) x3
        have f1 := r_impl_ExplainFacts (k - 1) (by omega) x0 (by omega) x1 (by omega) x2 (by omega) x3
        have f2 := r_laws_eqIntS (fl := true) (gl := true) (k - 1) (by omega) (explain x0 x1 x2 x3) (explain x0 x1 x2 x3) (by have := explain_len x0 x1 x2 x3; omega)
        have f3 := r_laws_markIncludesS (k - 1) (by omega) x0 (by omega) 1 (by omega)
        have f4 := r_laws_markFactS (k - 1) (by omega) x1 (by omega) (1 + ((2 * x0.length : Nat) : Int)) (by omega)
        have f5 := r_laws_markPolicy (k - 1) x2 (by omega) (1 + ((2 * x0.length : Nat) : Int) + ((6 * x1.length : Nat) : Int)) (by have := sum_rule x2.rules; unfold Policy.w at *; omega)
        have f6 := (decide_eq_false (by omega) : decide ((1 : Int) + ((2 * x0.length : Nat) : Int) + ((6 * x1.length : Nat) : Int) + ((sumG ruleW x2.rules : Nat) : Int) < 0) = false)
        have f7 := r_laws_markIntS (k - 1) (by omega) (explain x0 x1 x2 x3) (by have := explain_len x0 x1 x2 x3; omega) 1 (by omega)
        have f8 := r_laws_heldIntS (fl := true) (k - 1) (by omega) 1 (by omega) (explain x0 x1 x2 x3).length (by have := explain_len x0 x1 x2 x3; omega)
        have f9 := (decide_eq_false (by omega) : decide ((1 : Int) + (((explain x0 x1 x2 x3).length : Nat) : Int) < 0) = false)
        obtain ⟨k, rfl⟩ : ∃ j, k = j + 1 := ⟨k - 1, by omega⟩
        rw [run_succ rfl rfl, body_eq (nt := 123) (fn := Go.Proofs.Tryz.f3) (by kernel_rfl) rfl rfl rfl rfl rfl rfl rfl rfl]
        simp -implicitDefEqProofs only [Nat.add_sub_cancel, decide_true, Policy.encT, enc_Fact, enc_Includes, enc_Policy, enc_Request] at s0 s1 s2 t0 t1 t2 t3 e0 e1 e2 f0 f1 f2 f3 f4 f5 f6 f7 f8 f9
        simp -implicitDefEqProofs only [QS, QN, QG, QO, Go.Proofs.Tryz.f3, Policy.encT, enc_Fact, enc_Includes, enc_Policy, enc_Request, s0, s1, s2, t0, t1, t2, t3, e0, e1, e2, f0, f1, f2, f3, f4, f5, f6, f7, f8, f9, d0, d1, d2, bne, SO, SH, frzO, frzE, AV.laid, AV.treeV, AV.treeC, St.laid, spent, AV.subs, AV.shut, AV.scal, AV.scals, evBuildSlice, elemsOf, zeroOK, evAppend, rowOf, noref, isRef, small, import_, AV.any, AV.anys, isPtr, finV, rename, noPtr, isBad, AV.isUndef, St.setRow, AV.shutV, rebuild, isAggV, evBuild, fillCells, evCutOwn, dedup, nodupB, idx, AV.rows, AV.rowss, AV.mapO, AV.mapOs, firstRegion, gc, keptBoxes, keptRows, renameB, AV.boxes, AV.boxess, look_cons, reduceCtorEq, evCall_mutOwn, evCall_mutAgg, evGive, giveRows, ioBoxes, mutArgs, roArgs, handArg, mutSlots, isPtrB, pairs, pairss, back_nil, back_cons, backO, backE, setBoxes, importB, mode_mut, mode_give, mode_io, mode_ro, List.zip_cons_cons, List.zip_nil_left, List.zip_nil_right, ite_self, ite_true, ite_false, finish_give, finish_mut1, finish_io0, finish_io1, finish_io2, finish_io3, finish_ioc, finI, finC, finW_ptr, scals_ints, plains_ints, tscals_Includes, tscals_Fact, tscals_Rule, plan_3_11, plan_3_15, plan_3_22, plan_3_38, ifEv_bool, gate_bool, gateP_bool, gateQ_bool, pick_bool, SN, evCutRow, Int.reduceToNat, id_eq, Int.reduceBEq, Int.reduceLE, Int.reduceLT, SS, one_ne2, num_ne2, TIS, MDS, wanted, numbered, plainC, plainS, evEq, eqK, evBox, evAlloc, evStore, evLoad, evFieldAddr, behind, takeVal, AV.cells, AV.isCell, ofCells, ofCell, Value.cells, Nat.reduceAdd, Nat.reduceEqDiff, Nat.reduceLT, Nat.reduceLeDiff, Nat.reduceMul, Nat.reduceSub, reduceIte]
        repeat' (split <;> (rename_i h; (try simp -implicitDefEqProofs only [Bool.not_eq_true', Bool.not_eq_false', decide_eq_true_eq, decide_eq_false_iff_not] at h); (try simp -implicitDefEqProofs only [QS, QN, QG, QO, *, Policy.encT, enc_Fact, enc_Includes, enc_Policy, enc_Request, s0, s1, s2, t0, t1, t2, t3, e0, e1, e2, f0, f1, f2, f3, f4, f5, f6, f7, f8, f9, d0, d1, d2, bne, SO, SH, frzO, frzE, AV.laid, AV.treeV, AV.treeC, St.laid, spent, AV.subs, AV.shut, AV.scal, AV.scals, evBuildSlice, elemsOf, zeroOK, evAppend, rowOf, noref, isRef, small, import_, AV.any, AV.anys, isPtr, finV, rename, noPtr, isBad, AV.isUndef, St.setRow, AV.shutV, rebuild, isAggV, evBuild, fillCells, evCutOwn, dedup, nodupB, idx, AV.rows, AV.rowss, AV.mapO, AV.mapOs, firstRegion, gc, keptBoxes, keptRows, renameB, AV.boxes, AV.boxess, look_cons, reduceCtorEq, evCall_mutOwn, evCall_mutAgg, evGive, giveRows, ioBoxes, mutArgs, roArgs, handArg, mutSlots, isPtrB, pairs, pairss, back_nil, back_cons, backO, backE, setBoxes, importB, mode_mut, mode_give, mode_io, mode_ro, List.zip_cons_cons, List.zip_nil_left, List.zip_nil_right, ite_self, ite_true, ite_false, finish_give, finish_mut1, finish_io0, finish_io1, finish_io2, finish_io3, finish_ioc, finI, finC, finW_ptr, scals_ints, plains_ints, tscals_Includes, tscals_Fact, tscals_Rule, plan_3_11, plan_3_15, plan_3_22, plan_3_38, ifEv_bool, gate_bool, gateP_bool, gateQ_bool, pick_bool, SN, evCutRow, Int.reduceToNat, id_eq, Int.reduceBEq, Int.reduceLE, Int.reduceLT, SS, one_ne2, num_ne2, TIS, MDS, wanted, numbered, plainC, plainS, evEq, eqK, evBox, evAlloc, evStore, evLoad, evFieldAddr, behind, takeVal, AV.cells, AV.isCell, ofCells, ofCell, Value.cells, Nat.reduceAdd, Nat.reduceEqDiff, Nat.reduceLT, Nat.reduceLeDiff, Nat.reduceMul, Nat.reduceSub, reduceIte])))
      ·
        have s0 := r_laws_szIncludesS (fl := false) (k - 1) x0 (by omega) h0 1048576 (by omega) (by omega)
        have z0 : left 1048576 (x0.length) = 1048576 - (((x0.length) : Nat) : Int) := (left_le (by omega)).trans (by omega)
        have d0 : decide ((1048576 : Int) - (((x0.length) : Nat) : Int) < 0) = false := decide_eq_false (by omega)
        rw [z0] at s0
        have s1 := r_laws_szFactS (fl := false) (k - 1) x1 (by omega) h1 (1048576 - (((x0.length) : Nat) : Int)) (by omega) (by omega)
        have z1 : left (1048576 - (((x0.length) : Nat) : Int)) (x1.length) = 1048576 - (((x0.length) + (x1.length) : Nat) : Int) := (left_le (by omega)).trans (by omega)
        have d1 : decide ((1048576 : Int) - (((x0.length) + (x1.length) : Nat) : Int) < 0) = false := decide_eq_false (by omega)
        rw [z1] at s1
        have s2 := r_laws_szPolicy (fl := false) (k - 1) x2 (by omega) h2 (1048576 - (((x0.length) + (x1.length) : Nat) : Int)) (by omega) (by omega)
        have z2 : left (1048576 - (((x0.length) + (x1.length) : Nat) : Int)) (x2.w) = -1 := left_gt (by omega)
        rw [z2] at s2
        obtain ⟨k, rfl⟩ : ∃ j, k = j + 1 := ⟨k - 1, by omega⟩
        rw [run_succ rfl rfl, body_eq (nt := 123) (fn := Go.Proofs.Tryz.f3) (by kernel_rfl) rfl rfl rfl rfl rfl rfl rfl rfl]
        simp -implicitDefEqProofs only [Nat.add_sub_cancel, decide_true, Policy.encT, enc_Fact, enc_Includes, enc_Policy, enc_Request] at s0 s1 s2
        simp -implicitDefEqProofs only [QS, QN, QG, QO, Go.Proofs.Tryz.f3, Policy.encT, enc_Fact, enc_Includes, enc_Policy, enc_Request, s0, s1, s2, d0, d1, bne, SO, SH, frzO, frzE, AV.laid, AV.treeV, AV.treeC, St.laid, spent, AV.subs, AV.shut, AV.scal, AV.scals, evBuildSlice, elemsOf, zeroOK, evAppend, rowOf, noref, isRef, small, import_, AV.any, AV.anys, isPtr, finV, rename, noPtr, isBad, AV.isUndef, St.setRow, AV.shutV, rebuild, isAggV, evBuild, fillCells, evCutOwn, dedup, nodupB, idx, AV.rows, AV.rowss, AV.mapO, AV.mapOs, firstRegion, gc, keptBoxes, keptRows, renameB, AV.boxes, AV.boxess, plan_3_11, plan_3_15, plan_3_22, plan_3_38, ifEv_bool, gate_bool, gateP_bool, gateQ_bool, pick_bool, SN, evCutRow, Int.reduceToNat, id_eq, Int.reduceBEq, Int.reduceLE, Int.reduceLT, SS, one_ne2, num_ne2, TIS, MDS, wanted, numbered, plainC, plainS, evEq, eqK, evBox, evAlloc, evStore, evLoad, evFieldAddr, behind, takeVal, AV.cells, AV.isCell, ofCells, ofCell, Value.cells, Nat.reduceAdd, Nat.reduceEqDiff, Nat.reduceLT, Nat.reduceLeDiff, Nat.reduceMul, Nat.reduceSub, reduceIte]
        repeat' (split <;> (rename_i h; (try simp -implicitDefEqProofs only [Bool.not_eq_true', Bool.not_eq_false', decide_eq_true_eq, decide_eq_false_iff_not] at h); (try simp -implicitDefEqProofs only [QS, QN, QG, QO, *, Policy.encT, enc_Fact, enc_Includes, enc_Policy, enc_Request, s0, s1, s2, d0, d1, bne, SO, SH, frzO, frzE, AV.laid, AV.treeV, AV.treeC, St.laid, spent, AV.subs, AV.shut, AV.scal, AV.scals, evBuildSlice, elemsOf, zeroOK, evAppend, rowOf, noref, isRef, small, import_, AV.any, AV.anys, isPtr, finV, rename, noPtr, isBad, AV.isUndef, St.setRow, AV.shutV, rebuild, isAggV, evBuild, fillCells, evCutOwn, dedup, nodupB, idx, AV.rows, AV.rowss, AV.mapO, AV.mapOs, firstRegion, gc, keptBoxes, keptRows, renameB, AV.boxes, AV.boxess, plan_3_11, plan_3_15, plan_3_22, plan_3_38, ifEv_bool, gate_bool, gateP_bool, gateQ_bool, pick_bool, SN, evCutRow, Int.reduceToNat, id_eq, Int.reduceBEq, Int.reduceLE, Int.reduceLT, SS, one_ne2, num_ne2, TIS, MDS, wanted, numbered, plainC, plainS, evEq, eqK, evBox, evAlloc, evStore, evLoad, evFieldAddr, behind, takeVal, AV.cells, AV.isCell, ofCells, ofCell, Value.cells, Nat.reduceAdd, Nat.reduceEqDiff, Nat.reduceLT, Nat.reduceLeDiff, Nat.reduceMul, Nat.reduceSub, reduceIte])))
    ·
      have s0 := r_laws_szIncludesS (fl := false) (k - 1) x0 (by omega) h0 1048576 (by omega) (by omega)
      have z0 : left 1048576 (x0.length) = 1048576 - (((x0.length) : Nat) : Int) := (left_le (by omega)).trans (by omega)
      have d0 : decide ((1048576 : Int) - (((x0.length) : Nat) : Int) < 0) = false := decide_eq_false (by omega)
      rw [z0] at s0
      have s1 := r_laws_szFactS (fl := false) (k - 1) x1 (by omega) h1 (1048576 - (((x0.length) : Nat) : Int)) (by omega) (by omega)
      have z1 : left (1048576 - (((x0.length) : Nat) : Int)) (x1.length) = -1 := left_gt (by omega)
      rw [z1] at s1
      obtain ⟨k, rfl⟩ : ∃ j, k = j + 1 := ⟨k - 1, by omega⟩
      rw [run_succ rfl rfl, body_eq (nt := 123) (fn := Go.Proofs.Tryz.f3) (by kernel_rfl) rfl rfl rfl rfl rfl rfl rfl rfl]
      simp -implicitDefEqProofs only [Nat.add_sub_cancel, decide_true, Policy.encT, enc_Fact, enc_Includes, enc_Policy, enc_Request] at s0 s1
      simp -implicitDefEqProofs only [QS, QN, QG, QO, Go.Proofs.Tryz.f3, Policy.encT, enc_Fact, enc_Includes, enc_Policy, enc_Request, s0, s1, d0, bne, SO, SH, frzO, frzE, AV.laid, AV.treeV, AV.treeC, St.laid, spent, AV.subs, AV.shut, AV.scal, AV.scals, evBuildSlice, elemsOf, zeroOK, evAppend, rowOf, noref, isRef, small, import_, AV.any, AV.anys, isPtr, finV, rename, noPtr, isBad, AV.isUndef, St.setRow, AV.shutV, rebuild, isAggV, evBuild, fillCells, evCutOwn, dedup, nodupB, idx, AV.rows, AV.rowss, AV.mapO, AV.mapOs, firstRegion, gc, keptBoxes, keptRows, renameB, AV.boxes, AV.boxess, plan_3_11, plan_3_15, plan_3_22, plan_3_38, ifEv_bool, gate_bool, gateP_bool, gateQ_bool, pick_bool, SN, evCutRow, Int.reduceToNat, id_eq, Int.reduceBEq, Int.reduceLE, Int.reduceLT, SS, one_ne2, num_ne2, TIS, MDS, wanted, numbered, plainC, plainS, evEq, eqK, evBox, evAlloc, evStore, evLoad, evFieldAddr, behind, takeVal, AV.cells, AV.isCell, ofCells, ofCell, Value.cells, Nat.reduceAdd, Nat.reduceEqDiff, Nat.reduceLT, Nat.reduceLeDiff, Nat.reduceMul, Nat.reduceSub, reduceIte]
      repeat' (split <;> (rename_i h; (try simp -implicitDefEqProofs only [Bool.not_eq_true', Bool.not_eq_false', decide_eq_true_eq, decide_eq_false_iff_not] at h); (try simp -implicitDefEqProofs only [QS, QN, QG, QO, *, Policy.encT, enc_Fact, enc_Includes, enc_Policy, enc_Request, s0, s1, d0, bne, SO, SH, frzO, frzE, AV.laid, AV.treeV, AV.treeC, St.laid, spent, AV.subs, AV.shut, AV.scal, AV.scals, evBuildSlice, elemsOf, zeroOK, evAppend, rowOf, noref, isRef, small, import_, AV.any, AV.anys, isPtr, finV, rename, noPtr, isBad, AV.isUndef, St.setRow, AV.shutV, rebuild, isAggV, evBuild, fillCells, evCutOwn, dedup, nodupB, idx, AV.rows, AV.rowss, AV.mapO, AV.mapOs, firstRegion, gc, keptBoxes, keptRows, renameB, AV.boxes, AV.boxess, plan_3_11, plan_3_15, plan_3_22, plan_3_38, ifEv_bool, gate_bool, gateP_bool, gateQ_bool, pick_bool, SN, evCutRow, Int.reduceToNat, id_eq, Int.reduceBEq, Int.reduceLE, Int.reduceLT, SS, one_ne2, num_ne2, TIS, MDS, wanted, numbered, plainC, plainS, evEq, eqK, evBox, evAlloc, evStore, evLoad, evFieldAddr, behind, takeVal, AV.cells, AV.isCell, ofCells, ofCell, Value.cells, Nat.reduceAdd, Nat.reduceEqDiff, Nat.reduceLT, Nat.reduceLeDiff, Nat.reduceMul, Nat.reduceSub, reduceIte])))
  ·
    have s0 := r_laws_szIncludesS (fl := false) (k - 1) x0 (by omega) h0 1048576 (by omega) (by omega)
    have z0 : left 1048576 (x0.length) = -1 := left_gt (by omega)
    rw [z0] at s0
    obtain ⟨k, rfl⟩ : ∃ j, k = j + 1 := ⟨k - 1, by omega⟩
    rw [run_succ rfl rfl, body_eq (nt := 123) (fn := Go.Proofs.Tryz.f3) (by kernel_rfl) rfl rfl rfl rfl rfl rfl rfl rfl]
    simp -implicitDefEqProofs only [Nat.add_sub_cancel, decide_true, Policy.encT, enc_Fact, enc_Includes, enc_Policy, enc_Request] at s0
    simp -implicitDefEqProofs only [QS, QN, QG, QO, Go.Proofs.Tryz.f3, Policy.encT, enc_Fact, enc_Includes, enc_Policy, enc_Request, s0, bne, SO, SH, frzO, frzE, AV.laid, AV.treeV, AV.treeC, St.laid, spent, AV.subs, AV.shut, AV.scal, AV.scals, evBuildSlice, elemsOf, zeroOK, evAppend, rowOf, noref, isRef, small, import_, AV.any, AV.anys, isPtr, finV, rename, noPtr, isBad, AV.isUndef, St.setRow, AV.shutV, rebuild, isAggV, evBuild, fillCells, evCutOwn, dedup, nodupB, idx, AV.rows, AV.rowss, AV.mapO, AV.mapOs, firstRegion, gc, keptBoxes, keptRows, renameB, AV.boxes, AV.boxess, plan_3_11, plan_3_15, plan_3_22, plan_3_38, ifEv_bool, gate_bool, gateP_bool, gateQ_bool, pick_bool, SN, evCutRow, Int.reduceToNat, id_eq, Int.reduceBEq, Int.reduceLE, Int.reduceLT, SS, one_ne2, num_ne2, TIS, MDS, wanted, numbered, plainC, plainS, evEq, eqK, evBox, evAlloc, evStore, evLoad, evFieldAddr, behind, takeVal, AV.cells, AV.isCell, ofCells, ofCell, Value.cells, Nat.reduceAdd, Nat.reduceEqDiff, Nat.reduceLT, Nat.reduceLeDiff, Nat.reduceMul, Nat.reduceSub, reduceIte]
    repeat' (split <;> (rename_i h; (try simp -implicitDefEqProofs only [Bool.not_eq_true', Bool.not_eq_false', decide_eq_true_eq, decide_eq_false_iff_not] at h); (try simp -implicitDefEqProofs only [QS, QN, QG, QO, *, Policy.encT, enc_Fact, enc_Includes, enc_Policy, enc_Request, s0, bne, SO, SH, frzO, frzE, AV.laid, AV.treeV, AV.treeC, St.laid, spent, AV.subs, AV.shut, AV.scal, AV.scals, evBuildSlice, elemsOf, zeroOK, evAppend, rowOf, noref, isRef, small, import_, AV.any, AV.anys, isPtr, finV, rename, noPtr, isBad, AV.isUndef, St.setRow, AV.shutV, rebuild, isAggV, evBuild, fillCells, evCutOwn, dedup, nodupB, idx, AV.rows, AV.rowss, AV.mapO, AV.mapOs, firstRegion, gc, keptBoxes, keptRows, renameB, AV.boxes, AV.boxess, plan_3_11, plan_3_15, plan_3_22, plan_3_38, ifEv_bool, gate_bool, gateP_bool, gateQ_bool, pick_bool, SN, evCutRow, Int.reduceToNat, id_eq, Int.reduceBEq, Int.reduceLE, Int.reduceLT, SS, one_ne2, num_ne2, TIS, MDS, wanted, numbered, plainC, plainS, evEq, eqK, evBox, evAlloc, evStore, evLoad, evFieldAddr, behind, takeVal, AV.cells, AV.isCell, ofCells, ofCell, Value.cells, Nat.reduceAdd, Nat.reduceEqDiff, Nat.reduceLT, Nat.reduceLeDiff, Nat.reduceMul, Nat.reduceSub, reduceIte])))
end
open Go.ChangeShapes Go.WideShapes Go.ChangeAt Go.RowKit Flat
theorem own : ownKnob Tryz.prog.godebug = none := by kernel_rfl
theorem laidOut : laidOutB Tryz.prog = true := by kernel_rfl
set_option maxRecDepth 100000 in
theorem lifted (os : Os) (started : os.Started) (H : Type) (enc : TypeId × Value → H) :
    ReturnsInHanded {} Tryz.checked os 3 .any (Rows.fnExactExplainFactsSpec.pre6 enc Tryz.prog Tryz.f3 Rows.fnExactExplainFactsRow.domain false) (Rows.fnExactExplainFactsSpec.post enc Tryz.prog Tryz.f3 false true false false) := by
  refine returnsInHanded_of_change_sized (C := Tryz.checked) own started (by kernel_rfl) Tryz.func3
    (ChangeSpec.witness6 (enc := enc) (C := Tryz.checked) false ⟨#[], #[.slice none 0 0, .slice none 0 0, .agg #[.int .i64 0, .slice none 0 0], .agg #[.int .i64 0, .int .i64 0, .int .i64 0, .int .i64 0, .int .i64 0, .int .i64 0]], []⟩ 8 (by kernel_rfl) (by kernel_rfl) (by kernel_rfl) (by kernel_rfl)) ?_
  intro W base args ds gs before hval0 hW hcnd hsz0 _
  have hsz : (DataW.weightsEach Tryz.prog (Tryz.f3.params.toList ++ Rows.fnExactExplainFactsSpec.plain.varTypes Tryz.prog) (ds ++ gs)).all (· ≤ reachBytes) = true := hsz0
  have hval : ∀ (j : Nat) t v, Tryz.f3.params[j]? = some t → args[j]? = some v → Value.okWide Tryz.prog W .any base t v := hval0
  have hW' := hW
  obtain ⟨p, q, hA0, hV, rfl, hfz, hnd⟩ := hW
  have hA : DataW.TrodAll enc Tryz.prog W 0 (fun _ => true) true Tryz.f3.params.toList args.toList ds p := hA0
  rw [Tryz.params3] at hA hval hsz
  obtain ⟨v0, vs0, d0, ds0, p0, q0, hargs, rfl, rfl, h0, r0⟩ := trodAll_cons hA
  obtain ⟨v1, vs1, d1, ds1, p1, q1, rfl, rfl, rfl, h1, r1⟩ := trodAll_cons r0
  obtain ⟨v2, vs2, d2, ds2, p2, q2, rfl, rfl, rfl, h2, r2⟩ := trodAll_cons r1
  obtain ⟨v3, vs3, d3, ds3, p3, q3, rfl, rfl, rfl, h3, r3⟩ := trodAll_cons r2
  obtain ⟨rfl, rfl, rfl⟩ := trodAll_nil r3
  obtain rfl : args = #[v0, v1, v2, v3] := by cases args; simp_all
  obtain ⟨rfl, rfl⟩ := trodVars_none hV
  have lt0 : ∀ x ∈ p0, x.block < W.heap.size := by obtain ⟨m, hm⟩ := h0; exact DataW.trod_lt m _ _ _ hm
  obtain ⟨n0, a0, ty0, ro0⟩ := handed (P := Tryz.prog) (ts := [22, 59, 3]) (by kernel_rfl) (by kernel_rfl) (hval 0 22 v0 rfl rfl) h0 (weights_each hsz 0 22 d0 rfl rfl)
  obtain ⟨x0, rfl, fit0⟩ := shape_22 n0 a0 ty0
  have lt1 : ∀ x ∈ p1, x.block < W.heap.size := by obtain ⟨m, hm⟩ := h1; exact DataW.trod_lt m _ _ _ hm
  obtain ⟨n1, a1, ty1, ro1⟩ := handed (P := Tryz.prog) (ts := [23, 63, 3]) (by kernel_rfl) (by kernel_rfl) (hval 1 23 v1 rfl rfl) h1 (weights_each hsz 1 23 d1 rfl rfl)
  obtain ⟨x1, rfl, fit1⟩ := shape_23 n1 a1 ty1
  have lt2 : ∀ x ∈ p2, x.block < W.heap.size := by obtain ⟨m, hm⟩ := h2; exact DataW.trod_lt m _ _ _ hm
  obtain ⟨n2, a2, ty2, ro2⟩ := handed (P := Tryz.prog) (ts := [26, 3, 24, 81, 79, 77]) (by kernel_rfl) (by kernel_rfl) (hval 2 26 v2 rfl rfl) h2 (weights_each hsz 2 26 d2 rfl rfl)
  obtain ⟨x2, rfl, fit2⟩ := shape_26 n2 a2 ty2
  have lt3 : ∀ x ∈ p3, x.block < W.heap.size := by obtain ⟨m, hm⟩ := h3; exact DataW.trod_lt m _ _ _ hm
  obtain ⟨n3, a3, ty3, ro3⟩ := handed (P := Tryz.prog) (ts := [28, 3]) (by kernel_rfl) (by kernel_rfl) (hval 3 28 v3 rfl rfl) h3 (weights_each hsz 3 28 d3 rfl rfl)
  obtain ⟨x3, rfl⟩ := shape_28 n3 a3 ty3
  refine (law_ok mixed sound (ext := noExt) hext (reckoned x0 x1 x2 x3 fit0 fit1 fit2 _ (Nat.le_refl _)) (args := #[v0, v1, v2, v3]) (W := W) rfl (fun j hj => by
    rcases j with _ | _ | _ | _ | j
    · exact ro0
    · exact ro1
    · exact ro2
    · exact ro3
    · simp at hj; omega)).mono fun e W' ⟨he, bel⟩ => ?_
  subst he
  exact ⟨_, rfl, _, _, _, [], _, [], hW', trodAll_mk1 (shut_bool Tryz.underlying4 _), (trodAll_cons_mk (Below.trod laidOut (by kernel_rfl) (of_decide_eq_true (by kernel_rfl)) h0 bel lt0) (trodAll_cons_mk (Below.trod laidOut (by kernel_rfl) (of_decide_eq_true (by kernel_rfl)) h1 bel lt1) (trodAll_cons_mk (Below.trod laidOut (by kernel_rfl) (of_decide_eq_true (by kernel_rfl)) h2 bel lt2) (trodAll_cons_mk (Below.trod laidOut (by kernel_rfl) (of_decide_eq_true (by kernel_rfl)) h3 bel lt3) trodAll_mk0)))), rfl, bel.frame _, fun h => by cases h⟩
theorem over : Rows.fnExactExplainFactsRow.holds Tryz.pinned (OpenSpec.ofChange Rows.fnExactExplainFactsSpec) :=
  OpenClaim.holds_of_wide 3 Tryz.f3 rfl rfl rfl rfl rfl rfl rfl ⟨rfl, rfl, rfl, rfl, rfl⟩ rfl rfl rfl rfl rfl (by kernel_rfl) Tryz.func3 (by kernel_rfl)
    (of_decide_eq_true (by kernel_rfl)) (by unfold Func.isWrapper; first | (rw [if_pos (by decide +kernel)]; kernel_rfl) | (rw [if_neg (by decide +kernel)]; exact ⟨rfl, rfl⟩))
    (fun os started H enc _ => lifted os started H enc)
theorem proved : Rows.FnExactExplainFactsSaid := over
#print axioms proved
end Go.Proofs.YtfiapiobaelgoaaGreat.fnExactExplainFacts
namespace Go.Proofs.YtfiapiobaelgoaaGreat
/-- The row, under a short name, for the claim. -/
theorem fnExactExplainFacts_holds : Rows.FnExactExplainFactsSaid := fnExactExplainFacts.proved
end Go.Proofs.YtfiapiobaelgoaaGreat
