/-
The law of PublishEpoch: it answers true, whatever it is handed.
-/
import Derived.Test.YtaoemmefjakjnaaRows
import Derived.Test.YtaoemmefjakjnaaEqS
import Derived.Test.YtaoemmefjakjnaaEqZ
import Derived.Test.YtaoemmefjakjnaaEqT
import Derived.Test.YtaoemmefjakjnaaEqQ
import Derived.Test.YtaoemmefjakjnaaEqPE
import Derived.Test.YtaoemmefjakjnaaEqYE
import Derived.WalkKit
import Derived.ProofKit
import Derived.OpenShut
import Derived.ShutString
import Derived.ChangeOld
import Derived.Below
import Derived.SizedLaws
import Derived.Carry
set_option linter.unusedVariables false
set_option linter.unusedSimpArgs false
set_option maxRecDepth 10000
namespace Go.Proofs.Ytaoemmefjakjnaa.fnExactPublishEpoch
section
open Flat
set_option maxHeartbeats 16000000 in
theorem reckoned (x0 : List Epoch) (x1 : List Includes) (x2 : List Rule) (x3 : Int) (h0 : FitL Epoch.fits x0) (h1 : FitL (fun _ => True) x1) (h2 : FitL Rule.fits x2) (k : Nat) (hk : 1152921504606846976 + 4 * ((wl Epoch.w x0) + (x1.length) + (wl Rule.w x2)) + 60 ≤ k) : run E noExt k 4 [.sl false (x0.map (Epoch.enc false)), .sl false (x1.map (Includes.enc false)), .sl false (x2.map (Rule.enc false)), .int .i64 x3] [] = some (.bool true, []) := by
  have hl0 := wl_length Epoch.w x0
  have hl2 := wl_length Rule.w x2
  by_cases b0 : (((wl Epoch.w x0) : Nat) : Int) ≤ 1048576
  ·
    by_cases b1 : (((wl Epoch.w x0) + (x1.length) : Nat) : Int) ≤ 1048576
    ·
      by_cases b2 : (((wl Epoch.w x0) + (x1.length) + (wl Rule.w x2) : Nat) : Int) ≤ 1048576
      ·
        have s0 := r_laws_szEpochS (fl := false) (k - 1) x0 (by omega) h0 1048576 (by omega) (by omega)
        have z0 : left 1048576 (wl Epoch.w x0) = 1048576 - (((wl Epoch.w x0) : Nat) : Int) := (left_le (by omega)).trans (by omega)
        have d0 : decide ((1048576 : Int) - (((wl Epoch.w x0) : Nat) : Int) < 0) = false := decide_eq_false (by omega)
        rw [z0] at s0
        have s1 := r_laws_szIncludesS (fl := false) (k - 1) x1 (by omega) h1 (1048576 - (((wl Epoch.w x0) : Nat) : Int)) (by omega) (by omega)
        have z1 : left (1048576 - (((wl Epoch.w x0) : Nat) : Int)) (x1.length) = 1048576 - (((wl Epoch.w x0) + (x1.length) : Nat) : Int) := (left_le (by omega)).trans (by omega)
        have d1 : decide ((1048576 : Int) - (((wl Epoch.w x0) + (x1.length) : Nat) : Int) < 0) = false := decide_eq_false (by omega)
        rw [z1] at s1
        have s2 := r_laws_szRuleS (fl := false) (k - 1) x2 (by omega) h2 (1048576 - (((wl Epoch.w x0) + (x1.length) : Nat) : Int)) (by omega) (by omega)
        have z2 : left (1048576 - (((wl Epoch.w x0) + (x1.length) : Nat) : Int)) (wl Rule.w x2) = 1048576 - (((wl Epoch.w x0) + (x1.length) + (wl Rule.w x2) : Nat) : Int) := (left_le (by omega)).trans (by omega)
        have d2 : decide ((1048576 : Int) - (((wl Epoch.w x0) + (x1.length) + (wl Rule.w x2) : Nat) : Int) < 0) = false := decide_eq_false (by omega)
        rw [z2] at s2
        have t0 := r_laws_toEpochS (fl := false) (k - 1) (by omega) x0 (by omega)
        have t1 := r_laws_toIncludesS (fl := false) (k - 1) (by omega) x1 (by omega)
        have t2 := r_laws_toRuleS (fl := false) (k - 1) (by omega) x2 (by omega)
        have e0 := r_laws_eqEpochS (fl := true) (gl := true) (k - 1) (by omega) x0 x0 (by omega)
        have e1 := r_laws_eqIncludesS (fl := true) (gl := true) (k - 1) (by omega) x1 x1 (by omega)
        have e2 := r_laws_eqRuleS (fl := true) (gl := true) (k - 1) (by omega) x2 x2 (by omega)
        have f0 := r_spec_PublishEpoch (k - 1) (by omega) x0 x1 x2 x3 (by have := pubE_w (l := x0) (pairs := x1) (rules := x2) (t := x3); have := publish_w (l := x0) (e := pubE x0 x1 x2 x3); omega)
        have f1 := r_impl_PublishEpoch (k - 1) (by omega) x0 x1 x2 x3 (by have := pubE_w (l := x0) (pairs := x1) (rules := x2) (t := x3); have := publish_w (l := x0) (e := pubE x0 x1 x2 x3); omega)
        have f2 := r_laws_eqEpochS (fl := true) (gl := true) (k - 1) (by omega) (publish x0 (pubE x0 x1 x2 x3)) (publish x0 (pubE x0 x1 x2 x3)) (by have := pubE_w (l := x0) (pairs := x1) (rules := x2) (t := x3); have := publish_w (l := x0) (e := pubE x0 x1 x2 x3); omega)
        have f3 := r_laws_markEpochS (k - 1) x0 (by omega) 1 (by have := sum_epoch x0; have := wl_length Epoch.w x0; have := sum_rule x2; omega)
        have f4 := r_laws_markIncludesS (k - 1) (by omega) x1 (by omega) (1 + ((sumG epW x0 : Nat) : Int)) (by have := sum_epoch x0; have := wl_length Epoch.w x0; have := sum_rule x2; omega)
        have f5 := r_laws_markRuleS (k - 1) x2 (by omega) (1 + ((sumG epW x0 : Nat) : Int) + ((2 * x1.length : Nat) : Int)) (by have := sum_epoch x0; have := wl_length Epoch.w x0; have := sum_rule x2; omega)
        have f6 := (decide_eq_false (by omega) : decide ((1 : Int) + ((sumG epW x0 : Nat) : Int) + ((2 * x1.length : Nat) : Int) + ((sumG ruleW x2 : Nat) : Int) < 0) = false)
        have f7 := r_laws_markEpochSN (k - 1) (publish x0 (pubE x0 x1 x2 x3)) (by have := pubE_w (l := x0) (pairs := x1) (rules := x2) (t := x3); have := publish_w (l := x0) (e := pubE x0 x1 x2 x3); omega) 1 (by have := pubE_w (l := x0) (pairs := x1) (rules := x2) (t := x3); have := publish_w (l := x0) (e := pubE x0 x1 x2 x3); have := sum_epoch (publish x0 (pubE x0 x1 x2 x3)); have := publish_len (l := x0) (e := pubE x0 x1 x2 x3); have := wl_length Epoch.w x0; omega)
        have f8 := r_laws_heldEpochS (fl := true) (k - 1) (publish x0 (pubE x0 x1 x2 x3)) (by have := pubE_w (l := x0) (pairs := x1) (rules := x2) (t := x3); have := publish_w (l := x0) (e := pubE x0 x1 x2 x3); omega) 1 (by have := pubE_w (l := x0) (pairs := x1) (rules := x2) (t := x3); have := publish_w (l := x0) (e := pubE x0 x1 x2 x3); have := sum_epoch (publish x0 (pubE x0 x1 x2 x3)); have := publish_len (l := x0) (e := pubE x0 x1 x2 x3); have := wl_length Epoch.w x0; omega)
        have f9 := (decide_eq_false (by omega) : decide ((1 : Int) + ((sumG epW (publish x0 (pubE x0 x1 x2 x3)) : Nat) : Int) < 0) = false)
        obtain ⟨k, rfl⟩ : ∃ j, k = j + 1 := ⟨k - 1, by omega⟩
        rw [run_succ rfl rfl, body_eq (nt := 147) (fn := Go.Proofs.Try.f4) (by kernel_rfl) rfl rfl rfl rfl rfl rfl rfl rfl]
        simp -implicitDefEqProofs only [Nat.add_sub_cancel, decide_true, enc_Cond, enc_Epoch, enc_Includes, enc_Policy, enc_Rule] at s0 s1 s2 t0 t1 t2 e0 e1 e2 f0 f1 f2 f3 f4 f5 f6 f7 f8 f9
        simp -implicitDefEqProofs only [QS, QN, QG, QO, Go.Proofs.Try.f4, enc_Cond, enc_Epoch, enc_Includes, enc_Policy, enc_Rule, s0, s1, s2, t0, t1, t2, e0, e1, e2, f0, f1, f2, f3, f4, f5, f6, f7, f8, f9, d0, d1, d2, bne, SO, SH, frzO, frzE, AV.laid, AV.treeV, AV.treeC, St.laid, spent, AV.subs, AV.shut, AV.scal, AV.scals, evBuildSlice, elemsOf, zeroOK, evAppend, rowOf, noref, isRef, small, import_, AV.any, AV.anys, isPtr, finV, rename, noPtr, isBad, AV.isUndef, St.setRow, AV.shutV, rebuild, isAggV, evBuild, fillCells, evCutOwn, dedup, nodupB, idx, AV.rows, AV.rowss, AV.mapO, AV.mapOs, firstRegion, gc, keptBoxes, keptRows, renameB, AV.boxes, AV.boxess, look_cons, reduceCtorEq, evCall_mutOwn, evCall_mutAgg, evGive, giveRows, ioBoxes, mutArgs, roArgs, handArg, mutSlots, isPtrB, pairs, pairss, back_nil, back_cons, backO, backE, setBoxes, importB, mode_mut, mode_give, mode_io, mode_ro, List.zip_cons_cons, List.zip_nil_left, List.zip_nil_right, ite_self, ite_true, ite_false, finish_give, finish_mut1, finish_io0, finish_io1, finish_io2, finish_io3, finish_ioc, finI, finC, finW_ptr, tscals_Epoch, tscals_I, tscals_S, tshuts_I, tshuts_S, tscals_Includes, tscals_Rule, ifEv_bool, gate_bool, gateP_bool, gateQ_bool, pick_bool, SN, evCutRow, Int.reduceToNat, id_eq, Int.reduceBEq, Int.reduceLE, Int.reduceLT, SS, one_ne2, num_ne2, TIS, MDS, wanted, numbered, plainC, plainS, evEq, eqK, evBox, evAlloc, evStore, evLoad, evFieldAddr, behind, takeVal, AV.cells, AV.isCell, ofCells, ofCell, Value.cells, Nat.reduceAdd, Nat.reduceEqDiff, Nat.reduceLT, Nat.reduceLeDiff, Nat.reduceMul, Nat.reduceSub, reduceIte]
        repeat' (split <;> (rename_i h; (try simp -implicitDefEqProofs only [Bool.not_eq_true', Bool.not_eq_false', decide_eq_true_eq, decide_eq_false_iff_not] at h); (try simp -implicitDefEqProofs only [QS, QN, QG, QO, *, enc_Cond, enc_Epoch, enc_Includes, enc_Policy, enc_Rule, s0, s1, s2, t0, t1, t2, e0, e1, e2, f0, f1, f2, f3, f4, f5, f6, f7, f8, f9, d0, d1, d2, bne, SO, SH, frzO, frzE, AV.laid, AV.treeV, AV.treeC, St.laid, spent, AV.subs, AV.shut, AV.scal, AV.scals, evBuildSlice, elemsOf, zeroOK, evAppend, rowOf, noref, isRef, small, import_, AV.any, AV.anys, isPtr, finV, rename, noPtr, isBad, AV.isUndef, St.setRow, AV.shutV, rebuild, isAggV, evBuild, fillCells, evCutOwn, dedup, nodupB, idx, AV.rows, AV.rowss, AV.mapO, AV.mapOs, firstRegion, gc, keptBoxes, keptRows, renameB, AV.boxes, AV.boxess, look_cons, reduceCtorEq, evCall_mutOwn, evCall_mutAgg, evGive, giveRows, ioBoxes, mutArgs, roArgs, handArg, mutSlots, isPtrB, pairs, pairss, back_nil, back_cons, backO, backE, setBoxes, importB, mode_mut, mode_give, mode_io, mode_ro, List.zip_cons_cons, List.zip_nil_left, List.zip_nil_right, ite_self, ite_true, ite_false, finish_give, finish_mut1, finish_io0, finish_io1, finish_io2, finish_io3, finish_ioc, finI, finC, finW_ptr, tscals_Epoch, tscals_I, tscals_S, tshuts_I, tshuts_S, tscals_Includes, tscals_Rule, ifEv_bool, gate_bool, gateP_bool, gateQ_bool, pick_bool, SN, evCutRow, Int.reduceToNat, id_eq, Int.reduceBEq, Int.reduceLE, Int.reduceLT, SS, one_ne2, num_ne2, TIS, MDS, wanted, numbered, plainC, plainS, evEq, eqK, evBox, evAlloc, evStore, evLoad, evFieldAddr, behind, takeVal, AV.cells, AV.isCell, ofCells, ofCell, Value.cells, Nat.reduceAdd, Nat.reduceEqDiff, Nat.reduceLT, Nat.reduceLeDiff, Nat.reduceMul, Nat.reduceSub, reduceIte])))
      ·
        have s0 := r_laws_szEpochS (fl := false) (k - 1) x0 (by omega) h0 1048576 (by omega) (by omega)
        have z0 : left 1048576 (wl Epoch.w x0) = 1048576 - (((wl Epoch.w x0) : Nat) : Int) := (left_le (by omega)).trans (by omega)
        have d0 : decide ((1048576 : Int) - (((wl Epoch.w x0) : Nat) : Int) < 0) = false := decide_eq_false (by omega)
        rw [z0] at s0
        have s1 := r_laws_szIncludesS (fl := false) (k - 1) x1 (by omega) h1 (1048576 - (((wl Epoch.w x0) : Nat) : Int)) (by omega) (by omega)
        have z1 : left (1048576 - (((wl Epoch.w x0) : Nat) : Int)) (x1.length) = 1048576 - (((wl Epoch.w x0) + (x1.length) : Nat) : Int) := (left_le (by omega)).trans (by omega)
        have d1 : decide ((1048576 : Int) - (((wl Epoch.w x0) + (x1.length) : Nat) : Int) < 0) = false := decide_eq_false (by omega)
        rw [z1] at s1
        have s2 := r_laws_szRuleS (fl := false) (k - 1) x2 (by omega) h2 (1048576 - (((wl Epoch.w x0) + (x1.length) : Nat) : Int)) (by omega) (by omega)
        have z2 : left (1048576 - (((wl Epoch.w x0) + (x1.length) : Nat) : Int)) (wl Rule.w x2) = -1 := left_gt (by omega)
        rw [z2] at s2
        obtain ⟨k, rfl⟩ : ∃ j, k = j + 1 := ⟨k - 1, by omega⟩
        rw [run_succ rfl rfl, body_eq (nt := 147) (fn := Go.Proofs.Try.f4) (by kernel_rfl) rfl rfl rfl rfl rfl rfl rfl rfl]
        simp -implicitDefEqProofs only [Nat.add_sub_cancel, decide_true, enc_Cond, enc_Epoch, enc_Includes, enc_Policy, enc_Rule] at s0 s1 s2
        simp -implicitDefEqProofs only [QS, QN, QG, QO, Go.Proofs.Try.f4, enc_Cond, enc_Epoch, enc_Includes, enc_Policy, enc_Rule, s0, s1, s2, d0, d1, bne, SO, SH, frzO, frzE, AV.laid, AV.treeV, AV.treeC, St.laid, spent, AV.subs, AV.shut, AV.scal, AV.scals, evBuildSlice, elemsOf, zeroOK, evAppend, rowOf, noref, isRef, small, import_, AV.any, AV.anys, isPtr, finV, rename, noPtr, isBad, AV.isUndef, St.setRow, AV.shutV, rebuild, isAggV, evBuild, fillCells, evCutOwn, dedup, nodupB, idx, AV.rows, AV.rowss, AV.mapO, AV.mapOs, firstRegion, gc, keptBoxes, keptRows, renameB, AV.boxes, AV.boxess, ifEv_bool, gate_bool, gateP_bool, gateQ_bool, pick_bool, SN, evCutRow, Int.reduceToNat, id_eq, Int.reduceBEq, Int.reduceLE, Int.reduceLT, SS, one_ne2, num_ne2, TIS, MDS, wanted, numbered, plainC, plainS, evEq, eqK, evBox, evAlloc, evStore, evLoad, evFieldAddr, behind, takeVal, AV.cells, AV.isCell, ofCells, ofCell, Value.cells, Nat.reduceAdd, Nat.reduceEqDiff, Nat.reduceLT, Nat.reduceLeDiff, Nat.reduceMul, Nat.reduceSub, reduceIte]
        repeat' (split <;> (rename_i h; (try simp -implicitDefEqProofs only [Bool.not_eq_true', Bool.not_eq_false', decide_eq_true_eq, decide_eq_false_iff_not] at h); (try simp -implicitDefEqProofs only [QS, QN, QG, QO, *, enc_Cond, enc_Epoch, enc_Includes, enc_Policy, enc_Rule, s0, s1, s2, d0, d1, bne, SO, SH, frzO, frzE, AV.laid, AV.treeV, AV.treeC, St.laid, spent, AV.subs, AV.shut, AV.scal, AV.scals, evBuildSlice, elemsOf, zeroOK, evAppend, rowOf, noref, isRef, small, import_, AV.any, AV.anys, isPtr, finV, rename, noPtr, isBad, AV.isUndef, St.setRow, AV.shutV, rebuild, isAggV, evBuild, fillCells, evCutOwn, dedup, nodupB, idx, AV.rows, AV.rowss, AV.mapO, AV.mapOs, firstRegion, gc, keptBoxes, keptRows, renameB, AV.boxes, AV.boxess, ifEv_bool, gate_bool, gateP_bool, gateQ_bool, pick_bool, SN, evCutRow, Int.reduceToNat, id_eq, Int.reduceBEq, Int.reduceLE, Int.reduceLT, SS, one_ne2, num_ne2, TIS, MDS, wanted, numbered, plainC, plainS, evEq, eqK, evBox, evAlloc, evStore, evLoad, evFieldAddr, behind, takeVal, AV.cells, AV.isCell, ofCells, ofCell, Value.cells, Nat.reduceAdd, Nat.reduceEqDiff, Nat.reduceLT, Nat.reduceLeDiff, Nat.reduceMul, Nat.reduceSub, reduceIte])))
    ·
      have s0 := r_laws_szEpochS (fl := false) (k - 1) x0 (by omega) h0 1048576 (by omega) (by omega)
      have z0 : left 1048576 (wl Epoch.w x0) = 1048576 - (((wl Epoch.w x0) : Nat) : Int) := (left_le (by omega)).trans (by omega)
      have d0 : decide ((1048576 : Int) - (((wl Epoch.w x0) : Nat) : Int) < 0) = false := decide_eq_false (by omega)
      rw [z0] at s0
      have s1 := r_laws_szIncludesS (fl := false) (k - 1) x1 (by omega) h1 (1048576 - (((wl Epoch.w x0) : Nat) : Int)) (by omega) (by omega)
      have z1 : left (1048576 - (((wl Epoch.w x0) : Nat) : Int)) (x1.length) = -1 := left_gt (by omega)
      rw [z1] at s1
      obtain ⟨k, rfl⟩ : ∃ j, k = j + 1 := ⟨k - 1, by omega⟩
      rw [run_succ rfl rfl, body_eq (nt := 147) (fn := Go.Proofs.Try.f4) (by kernel_rfl) rfl rfl rfl rfl rfl rfl rfl rfl]
      simp -implicitDefEqProofs only [Nat.add_sub_cancel, decide_true, enc_Cond, enc_Epoch, enc_Includes, enc_Policy, enc_Rule] at s0 s1
      simp -implicitDefEqProofs only [QS, QN, QG, QO, Go.Proofs.Try.f4, enc_Cond, enc_Epoch, enc_Includes, enc_Policy, enc_Rule, s0, s1, d0, bne, SO, SH, frzO, frzE, AV.laid, AV.treeV, AV.treeC, St.laid, spent, AV.subs, AV.shut, AV.scal, AV.scals, evBuildSlice, elemsOf, zeroOK, evAppend, rowOf, noref, isRef, small, import_, AV.any, AV.anys, isPtr, finV, rename, noPtr, isBad, AV.isUndef, St.setRow, AV.shutV, rebuild, isAggV, evBuild, fillCells, evCutOwn, dedup, nodupB, idx, AV.rows, AV.rowss, AV.mapO, AV.mapOs, firstRegion, gc, keptBoxes, keptRows, renameB, AV.boxes, AV.boxess, ifEv_bool, gate_bool, gateP_bool, gateQ_bool, pick_bool, SN, evCutRow, Int.reduceToNat, id_eq, Int.reduceBEq, Int.reduceLE, Int.reduceLT, SS, one_ne2, num_ne2, TIS, MDS, wanted, numbered, plainC, plainS, evEq, eqK, evBox, evAlloc, evStore, evLoad, evFieldAddr, behind, takeVal, AV.cells, AV.isCell, ofCells, ofCell, Value.cells, Nat.reduceAdd, Nat.reduceEqDiff, Nat.reduceLT, Nat.reduceLeDiff, Nat.reduceMul, Nat.reduceSub, reduceIte]
      repeat' (split <;> (rename_i h; (try simp -implicitDefEqProofs only [Bool.not_eq_true', Bool.not_eq_false', decide_eq_true_eq, decide_eq_false_iff_not] at h); (try simp -implicitDefEqProofs only [QS, QN, QG, QO, *, enc_Cond, enc_Epoch, enc_Includes, enc_Policy, enc_Rule, s0, s1, d0, bne, SO, SH, frzO, frzE, AV.laid, AV.treeV, AV.treeC, St.laid, spent, AV.subs, AV.shut, AV.scal, AV.scals, evBuildSlice, elemsOf, zeroOK, evAppend, rowOf, noref, isRef, small, import_, AV.any, AV.anys, isPtr, finV, rename, noPtr, isBad, AV.isUndef, St.setRow, AV.shutV, rebuild, isAggV, evBuild, fillCells, evCutOwn, dedup, nodupB, idx, AV.rows, AV.rowss, AV.mapO, AV.mapOs, firstRegion, gc, keptBoxes, keptRows, renameB, AV.boxes, AV.boxess, ifEv_bool, gate_bool, gateP_bool, gateQ_bool, pick_bool, SN, evCutRow, Int.reduceToNat, id_eq, Int.reduceBEq, Int.reduceLE, Int.reduceLT, SS, one_ne2, num_ne2, TIS, MDS, wanted, numbered, plainC, plainS, evEq, eqK, evBox, evAlloc, evStore, evLoad, evFieldAddr, behind, takeVal, AV.cells, AV.isCell, ofCells, ofCell, Value.cells, Nat.reduceAdd, Nat.reduceEqDiff, Nat.reduceLT, Nat.reduceLeDiff, Nat.reduceMul, Nat.reduceSub, reduceIte])))
  ·
    have s0 := r_laws_szEpochS (fl := false) (k - 1) x0 (by omega) h0 1048576 (by omega) (by omega)
    have z0 : left 1048576 (wl Epoch.w x0) = -1 := left_gt (by omega)
    rw [z0] at s0
    obtain ⟨k, rfl⟩ : ∃ j, k = j + 1 := ⟨k - 1, by omega⟩
    rw [run_succ rfl rfl, body_eq (nt := 147) (fn := Go.Proofs.Try.f4) (by kernel_rfl) rfl rfl rfl rfl rfl rfl rfl rfl]
    simp -implicitDefEqProofs only [Nat.add_sub_cancel, decide_true, enc_Cond, enc_Epoch, enc_Includes, enc_Policy, enc_Rule] at s0
    simp -implicitDefEqProofs only [QS, QN, QG, QO, Go.Proofs.Try.f4, enc_Cond, enc_Epoch, enc_Includes, enc_Policy, enc_Rule, s0, bne, SO, SH, frzO, frzE, AV.laid, AV.treeV, AV.treeC, St.laid, spent, AV.subs, AV.shut, AV.scal, AV.scals, evBuildSlice, elemsOf, zeroOK, evAppend, rowOf, noref, isRef, small, import_, AV.any, AV.anys, isPtr, finV, rename, noPtr, isBad, AV.isUndef, St.setRow, AV.shutV, rebuild, isAggV, evBuild, fillCells, evCutOwn, dedup, nodupB, idx, AV.rows, AV.rowss, AV.mapO, AV.mapOs, firstRegion, gc, keptBoxes, keptRows, renameB, AV.boxes, AV.boxess, ifEv_bool, gate_bool, gateP_bool, gateQ_bool, pick_bool, SN, evCutRow, Int.reduceToNat, id_eq, Int.reduceBEq, Int.reduceLE, Int.reduceLT, SS, one_ne2, num_ne2, TIS, MDS, wanted, numbered, plainC, plainS, evEq, eqK, evBox, evAlloc, evStore, evLoad, evFieldAddr, behind, takeVal, AV.cells, AV.isCell, ofCells, ofCell, Value.cells, Nat.reduceAdd, Nat.reduceEqDiff, Nat.reduceLT, Nat.reduceLeDiff, Nat.reduceMul, Nat.reduceSub, reduceIte]
    repeat' (split <;> (rename_i h; (try simp -implicitDefEqProofs only [Bool.not_eq_true', Bool.not_eq_false', decide_eq_true_eq, decide_eq_false_iff_not] at h); (try simp -implicitDefEqProofs only [QS, QN, QG, QO, *, enc_Cond, enc_Epoch, enc_Includes, enc_Policy, enc_Rule, s0, bne, SO, SH, frzO, frzE, AV.laid, AV.treeV, AV.treeC, St.laid, spent, AV.subs, AV.shut, AV.scal, AV.scals, evBuildSlice, elemsOf, zeroOK, evAppend, rowOf, noref, isRef, small, import_, AV.any, AV.anys, isPtr, finV, rename, noPtr, isBad, AV.isUndef, St.setRow, AV.shutV, rebuild, isAggV, evBuild, fillCells, evCutOwn, dedup, nodupB, idx, AV.rows, AV.rowss, AV.mapO, AV.mapOs, firstRegion, gc, keptBoxes, keptRows, renameB, AV.boxes, AV.boxess, ifEv_bool, gate_bool, gateP_bool, gateQ_bool, pick_bool, SN, evCutRow, Int.reduceToNat, id_eq, Int.reduceBEq, Int.reduceLE, Int.reduceLT, SS, one_ne2, num_ne2, TIS, MDS, wanted, numbered, plainC, plainS, evEq, eqK, evBox, evAlloc, evStore, evLoad, evFieldAddr, behind, takeVal, AV.cells, AV.isCell, ofCells, ofCell, Value.cells, Nat.reduceAdd, Nat.reduceEqDiff, Nat.reduceLT, Nat.reduceLeDiff, Nat.reduceMul, Nat.reduceSub, reduceIte])))
end
open Go.ChangeShapes Go.WideShapes Go.ChangeAt Go.RowKit Flat
theorem own : ownKnob Try.prog.godebug = none := by kernel_rfl
theorem laidOut : laidOutB Try.prog = true := by kernel_rfl
set_option maxRecDepth 100000 in
theorem lifted (os : Os) (started : os.Started) (H : Type) (enc : TypeId × Value → H) :
    ReturnsInHanded {} Try.checked os 4 .any (Rows.fnExactPublishEpochSpec.pre6 enc Try.prog Try.f4 Rows.fnExactPublishEpochRow.domain false) (Rows.fnExactPublishEpochSpec.post enc Try.prog Try.f4 false true false false) := by
  refine returnsInHanded_of_change_sized (C := Try.checked) own started (by kernel_rfl) Try.func4
    (ChangeSpec.witness6 (enc := enc) (C := Try.checked) false ⟨#[], #[.slice none 0 0, .slice none 0 0, .slice none 0 0, .int .i64 0], []⟩ 8 (by kernel_rfl) (by kernel_rfl) (by kernel_rfl) (by kernel_rfl)) ?_
  intro W base args ds gs before hval0 hW hcnd hsz0 _
  have hsz : (DataW.weightsEach Try.prog (Try.f4.params.toList ++ Rows.fnExactPublishEpochSpec.plain.varTypes Try.prog) (ds ++ gs)).all (· ≤ reachBytes) = true := hsz0
  have hval : ∀ (j : Nat) t v, Try.f4.params[j]? = some t → args[j]? = some v → Value.okWide Try.prog W .any base t v := hval0
  have hW' := hW
  obtain ⟨p, q, hA0, hV, rfl, hfz, hnd⟩ := hW
  have hA : DataW.TrodAll enc Try.prog W 0 (fun _ => true) true Try.f4.params.toList args.toList ds p := hA0
  rw [Try.params4] at hA hval hsz
  obtain ⟨v0, vs0, d0, ds0, p0, q0, hargs, rfl, rfl, h0, r0⟩ := trodAll_cons hA
  obtain ⟨v1, vs1, d1, ds1, p1, q1, rfl, rfl, rfl, h1, r1⟩ := trodAll_cons r0
  obtain ⟨v2, vs2, d2, ds2, p2, q2, rfl, rfl, rfl, h2, r2⟩ := trodAll_cons r1
  obtain ⟨v3, vs3, d3, ds3, p3, q3, rfl, rfl, rfl, h3, r3⟩ := trodAll_cons r2
  obtain ⟨rfl, rfl, rfl⟩ := trodAll_nil r3
  obtain rfl : args = #[v0, v1, v2, v3] := by cases args; simp_all
  obtain ⟨rfl, rfl⟩ := trodVars_none hV
  have lt0 : ∀ x ∈ p0, x.block < W.heap.size := by obtain ⟨m, hm⟩ := h0; exact DataW.trod_lt m _ _ _ hm
  obtain ⟨n0, a0, ty0, ro0⟩ := handed (P := Try.prog) (ts := [40, 70, 3, 41, 81, 68, 42, 76, 74, 72]) (by kernel_rfl) (by kernel_rfl) (hval 0 40 v0 rfl rfl) h0 (weights_each hsz 0 40 d0 rfl rfl)
  obtain ⟨x0, rfl, fit0⟩ := shape_40 n0 a0 ty0
  have lt1 : ∀ x ∈ p1, x.block < W.heap.size := by obtain ⟨m, hm⟩ := h1; exact DataW.trod_lt m _ _ _ hm
  obtain ⟨n1, a1, ty1, ro1⟩ := handed (P := Try.prog) (ts := [41, 81, 3]) (by kernel_rfl) (by kernel_rfl) (hval 1 41 v1 rfl rfl) h1 (weights_each hsz 1 41 d1 rfl rfl)
  obtain ⟨x1, rfl, fit1⟩ := shape_41 n1 a1 ty1
  have lt2 : ∀ x ∈ p2, x.block < W.heap.size := by obtain ⟨m, hm⟩ := h2; exact DataW.trod_lt m _ _ _ hm
  obtain ⟨n2, a2, ty2, ro2⟩ := handed (P := Try.prog) (ts := [42, 76, 3, 74, 72]) (by kernel_rfl) (by kernel_rfl) (hval 2 42 v2 rfl rfl) h2 (weights_each hsz 2 42 d2 rfl rfl)
  obtain ⟨x2, rfl, fit2⟩ := shape_42 n2 a2 ty2
  have lt3 : ∀ x ∈ p3, x.block < W.heap.size := by obtain ⟨m, hm⟩ := h3; exact DataW.trod_lt m _ _ _ hm
  obtain ⟨n3, a3, ty3, ro3⟩ := handed (P := Try.prog) (ts := [3]) (by kernel_rfl) (by kernel_rfl) (hval 3 3 v3 rfl rfl) h3 (weights_each hsz 3 3 d3 rfl rfl)
  obtain ⟨x3, rfl, _⟩ := typed_int Try.underlying3 ty3
  refine (law_ok mixed sound (ext := noExt) hext (reckoned x0 x1 x2 x3 fit0 fit1 fit2 _ (Nat.le_refl _)) (args := #[v0, v1, v2, v3]) (W := W) rfl (fun j hj => by
    rcases j with _ | _ | _ | _ | j
    · exact ro0
    · exact ro1
    · exact ro2
    · exact ro3
    · simp at hj; omega)).mono fun e W' ⟨he, bel⟩ => ?_
  subst he
  exact ⟨_, rfl, _, _, _, [], _, [], hW', trodAll_mk1 (shut_bool Try.underlying4 _), (trodAll_cons_mk (Below.trod laidOut (by kernel_rfl) (of_decide_eq_true (by kernel_rfl)) h0 bel lt0) (trodAll_cons_mk (Below.trod laidOut (by kernel_rfl) (of_decide_eq_true (by kernel_rfl)) h1 bel lt1) (trodAll_cons_mk (Below.trod laidOut (by kernel_rfl) (of_decide_eq_true (by kernel_rfl)) h2 bel lt2) (trodAll_cons_mk (Below.trod laidOut (by kernel_rfl) (of_decide_eq_true (by kernel_rfl)) h3 bel lt3) trodAll_mk0)))), rfl, bel.frame _, fun h => by cases h⟩
theorem over : Rows.fnExactPublishEpochRow.holds Try.pinned (OpenSpec.ofChange Rows.fnExactPublishEpochSpec) :=
  OpenClaim.holds_of_wide 4 Try.f4 rfl rfl rfl rfl rfl rfl rfl ⟨rfl, rfl, rfl, rfl, rfl⟩ rfl rfl rfl rfl rfl (by kernel_rfl) Try.func4 (by kernel_rfl)
    (of_decide_eq_true (by kernel_rfl)) (by unfold Func.isWrapper; first | (rw [if_pos (by decide +kernel)]; kernel_rfl) | (rw [if_neg (by decide +kernel)]; exact ⟨rfl, rfl⟩))
    (fun os started H enc _ => lifted os started H enc)
theorem proved : Rows.FnExactPublishEpochSaid := over
#print axioms proved
end Go.Proofs.Ytaoemmefjakjnaa.fnExactPublishEpoch
namespace Go.Proofs.Ytaoemmefjakjnaa
/-- The row, under a short name, for the claim. -/
theorem fnExactPublishEpoch_holds : Rows.FnExactPublishEpochSaid := fnExactPublishEpoch.proved
end Go.Proofs.Ytaoemmefjakjnaa
