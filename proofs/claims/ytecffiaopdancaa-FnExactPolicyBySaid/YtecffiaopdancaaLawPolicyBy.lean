/-
The law of PolicyBy: it answers true, whatever it is handed.
-/
import Derived.Test.YtecffiaopdancaaRows
import Derived.Test.YtecffiaopdancaaEqS
import Derived.Test.YtecffiaopdancaaEqZ
import Derived.Test.YtecffiaopdancaaEqT
import Derived.Test.YtecffiaopdancaaEqQ
import Derived.Test.YtecffiaopdancaaEqP
import Derived.WalkKit
import Derived.ProofKit
import Derived.OpenShut
import Derived.ShutString
import Derived.ChangeOld
import Derived.Below
import Derived.SizedLaws
import Derived.Carry
set_option linter.unusedVariables false
set_option linter.unusedSimpArgs false
set_option maxRecDepth 10000
namespace Go.Proofs.Ytecffiaopdancaa.fnExactPolicyBy
section
open Flat
theorem reckoned (x0 : Policy) (x1 : Int) (x2 : Int) (x3 : List Cond) (x4 : List Bool) (h0 : x0.fits) (h3 : FitL Cond.fits x3) (h4 : FitL (fun _ => True) x4) (k : Nat) (hk : 1152921504606846976 + 4 * ((x0.w) + (wl Cond.w x3) + (x4.length)) + 60 ≤ k) : run E noExt k 6 [x0.enc false, .int .i64 x1, .int .i64 x2, .sl false (x3.map (Cond.enc false)), .sl false (x4.map AV.bool)] [] = some (.bool true, []) := by
  have hl3 := wl_length Cond.w x3
  by_cases c0 : x4.length ≤ 1048576
  ·
    have cd0 : decide ((1048576 : Int) < (x4.length : Int)) = false := decide_eq_false (by omega)
    by_cases b0 : (((x0.w) : Nat) : Int) ≤ 1048576
    ·
      by_cases b1 : (((x0.w) + (wl Cond.w x3) : Nat) : Int) ≤ 1048576
      ·
        have s0 := r_laws_szPolicy (fl := false) (k - 1) x0 (by omega) h0 1048576 (by omega) (by omega)
        have z0 : left 1048576 (x0.w) = 1048576 - (((x0.w) : Nat) : Int) := (left_le (by omega)).trans (by omega)
        have d0 : decide ((1048576 : Int) - (((x0.w) : Nat) : Int) < 0) = false := decide_eq_false (by omega)
        rw [z0] at s0
        have s1 := r_laws_szCondS (fl := false) (k - 1) x3 (by omega) h3 (1048576 - (((x0.w) : Nat) : Int)) (by omega) (by omega)
        have z1 : left (1048576 - (((x0.w) : Nat) : Int)) (wl Cond.w x3) = 1048576 - (((x0.w) + (wl Cond.w x3) : Nat) : Int) := (left_le (by omega)).trans (by omega)
        have d1 : decide ((1048576 : Int) - (((x0.w) + (wl Cond.w x3) : Nat) : Int) < 0) = false := decide_eq_false (by omega)
        rw [z1] at s1
        have t0 := r_laws_toPolicy (fl := false) (k - 1) (by omega) x0 (by omega)
        have t1 := r_laws_toCondS (fl := false) (k - 1) (by omega) x3 (by omega)
        have t2 := r_laws_toBoolS (fl := false) (k - 1) (by omega) x4 (by omega)
        have e0 := r_laws_eqPolicy (fl := true) (gl := true) (k - 1) (by omega) x0 x0 (by omega)
        have e1 := r_laws_eqCondS (fl := true) (gl := true) (k - 1) (by omega) x3 x3 (by omega)
        have e2 := r_laws_eqBoolS (fl := true) (gl := true) (k - 1) (by omega) x4 x4 (by omega)
        have f0 := r_spec_PolicyBy (fl := true) (f2 := true) (f3 := true) (k - 1) (by omega) x0 x1 x2 x3 x4 (by omega) (by omega)
        have f1 := r_impl_PolicyBy (fl := true) (f2 := true) (f3 := true) (k - 1) (by omega) x0 x1 x2 x3 x4 (by omega) (by omega)
        obtain ⟨k, rfl⟩ : ∃ j, k = j + 1 := ⟨k - 1, by omega⟩
        rw [run_succ rfl rfl, body_eq (nt := 69) (fn := Go.Proofs.Try.f6) (by kernel_rfl) rfl rfl rfl rfl]
        simp -implicitDefEqProofs only [Nat.add_sub_cancel, decide_true, Policy.encO, enc_Cond, enc_Policy] at s0 s1 t0 t1 t2 e0 e1 e2 f0 f1
        simp -implicitDefEqProofs only [Go.Proofs.Try.f6, Policy.encO, enc_Cond, enc_Policy, s0, s1, t0, t1, t2, e0, e1, e2, f0, f1, d0, d1, cd0, bne, SO, evBuildSlice, elemsOf, zeroOK, evAppend, rowOf, List.size_toArray, Bool.or_false, Bool.false_or, Bool.or_self, List.any_cons, List.any_nil, List.headD_cons, noref, isRef, small, import_, AV.any, AV.anys, isPtr, finV, rename, noPtr, isBad, AV.isUndef, St.setRow, AV.shutV, rebuild, isAggV, evBuild, fillCells, List.range_zero, List.range_succ, List.flatMap_cons, List.flatMap_nil, List.filter_nil, List.filter_cons, List.mem_cons, List.not_mem_nil, or_false, false_or, or_true, true_or, decide_not, ne_eq, not_true_eq_false, not_false_eq_true, Option.isSome_some, Option.getD_some, Option.getD_none, beq_self_eq_true, firstRegion, gc, keptBoxes, keptRows, dedup, nodupB, idx, renameB, AV.boxes, AV.boxess, AV.rows, AV.rowss, AV.mapO, AV.mapOs, plan_6_17, ifEv_bool, gate_bool, gateQ_bool, pick_bool, SN, evCutRow, Bool.true_or, Bool.false_or, Bool.or_true, Bool.or_false, Int.reduceToNat, id_eq, Int.toNat_natCast, Int.natCast_nonneg, List.getElem?_map, List.length_map, Int.lt_irrefl, Int.toNat_zero, Int.reduceBEq, Int.reduceLE, Int.reduceLT, SS, List.length_cons, List.length_nil, List.getElem?_cons_zero, List.getElem?_cons_succ, Option.bind_some, Option.map_some, beq_true, beq_false, decide_eq_true_eq, Bool.not_eq_true', decide_eq_false_iff_not, List.map_cons, List.map_nil, List.append_nil, Bool.true_and, Bool.false_and, Bool.and_true, Bool.and_false, decide_true, decide_false, Bool.false_eq_true, Bool.not_true, Bool.not_false, List.all_cons, List.all_nil, List.drop_zero, List.drop_succ_cons, List.drop_nil, List.take_succ_cons, List.take_zero, List.take_nil, List.head?_cons, List.cons_append, List.nil_append, Nat.le_refl, Nat.zero_le, List.length_take, List.length_drop, and_self, and_true, true_and, Nat.zero_add, Nat.add_zero, TIS, wanted, numbered, plainC, plainS, evEq, eqK, evBox, evAlloc, evStore, evLoad, evFieldAddr, behind, takeVal, AV.cells, AV.isCell, ofCells, ofCell, Value.cells, Nat.reduceAdd, Nat.reduceEqDiff, Nat.reduceLT, Nat.reduceLeDiff, Nat.reduceMul, Nat.reduceSub, reduceIte]
        repeat' (split <;> (rename_i h; (try simp -implicitDefEqProofs only [Bool.not_eq_true', Bool.not_eq_false', decide_eq_true_eq, decide_eq_false_iff_not] at h); (try simp -implicitDefEqProofs only [*, Policy.encO, enc_Cond, enc_Policy, s0, s1, t0, t1, t2, e0, e1, e2, f0, f1, d0, d1, cd0, bne, SO, evBuildSlice, elemsOf, zeroOK, evAppend, rowOf, List.size_toArray, Bool.or_false, Bool.false_or, Bool.or_self, List.any_cons, List.any_nil, List.headD_cons, noref, isRef, small, import_, AV.any, AV.anys, isPtr, finV, rename, noPtr, isBad, AV.isUndef, St.setRow, AV.shutV, rebuild, isAggV, evBuild, fillCells, List.range_zero, List.range_succ, List.flatMap_cons, List.flatMap_nil, List.filter_nil, List.filter_cons, List.mem_cons, List.not_mem_nil, or_false, false_or, or_true, true_or, decide_not, ne_eq, not_true_eq_false, not_false_eq_true, Option.isSome_some, Option.getD_some, Option.getD_none, beq_self_eq_true, firstRegion, gc, keptBoxes, keptRows, dedup, nodupB, idx, renameB, AV.boxes, AV.boxess, AV.rows, AV.rowss, AV.mapO, AV.mapOs, plan_6_17, ifEv_bool, gate_bool, gateQ_bool, pick_bool, SN, evCutRow, Bool.true_or, Bool.false_or, Bool.or_true, Bool.or_false, Int.reduceToNat, id_eq, Int.toNat_natCast, Int.natCast_nonneg, List.getElem?_map, List.length_map, Int.lt_irrefl, Int.toNat_zero, Int.reduceBEq, Int.reduceLE, Int.reduceLT, SS, List.length_cons, List.length_nil, List.getElem?_cons_zero, List.getElem?_cons_succ, Option.bind_some, Option.map_some, beq_true, beq_false, decide_eq_true_eq, Bool.not_eq_true', decide_eq_false_iff_not, List.map_cons, List.map_nil, List.append_nil, Bool.true_and, Bool.false_and, Bool.and_true, Bool.and_false, decide_true, decide_false, Bool.false_eq_true, Bool.not_true, Bool.not_false, List.all_cons, List.all_nil, List.drop_zero, List.drop_succ_cons, List.drop_nil, List.take_succ_cons, List.take_zero, List.take_nil, List.head?_cons, List.cons_append, List.nil_append, Nat.le_refl, Nat.zero_le, List.length_take, List.length_drop, and_self, and_true, true_and, Nat.zero_add, Nat.add_zero, TIS, wanted, numbered, plainC, plainS, evEq, eqK, evBox, evAlloc, evStore, evLoad, evFieldAddr, behind, takeVal, AV.cells, AV.isCell, ofCells, ofCell, Value.cells, Nat.reduceAdd, Nat.reduceEqDiff, Nat.reduceLT, Nat.reduceLeDiff, Nat.reduceMul, Nat.reduceSub, reduceIte])))
      ·
        have s0 := r_laws_szPolicy (fl := false) (k - 1) x0 (by omega) h0 1048576 (by omega) (by omega)
        have z0 : left 1048576 (x0.w) = 1048576 - (((x0.w) : Nat) : Int) := (left_le (by omega)).trans (by omega)
        have d0 : decide ((1048576 : Int) - (((x0.w) : Nat) : Int) < 0) = false := decide_eq_false (by omega)
        rw [z0] at s0
        have s1 := r_laws_szCondS (fl := false) (k - 1) x3 (by omega) h3 (1048576 - (((x0.w) : Nat) : Int)) (by omega) (by omega)
        have z1 : left (1048576 - (((x0.w) : Nat) : Int)) (wl Cond.w x3) = -1 := left_gt (by omega)
        rw [z1] at s1
        obtain ⟨k, rfl⟩ : ∃ j, k = j + 1 := ⟨k - 1, by omega⟩
        rw [run_succ rfl rfl, body_eq (nt := 69) (fn := Go.Proofs.Try.f6) (by kernel_rfl) rfl rfl rfl rfl]
        simp -implicitDefEqProofs only [Nat.add_sub_cancel, decide_true, Policy.encO, enc_Cond, enc_Policy] at s0 s1
        simp -implicitDefEqProofs only [Go.Proofs.Try.f6, Policy.encO, enc_Cond, enc_Policy, s0, s1, d0, cd0, bne, SO, evBuildSlice, elemsOf, zeroOK, evAppend, rowOf, List.size_toArray, Bool.or_false, Bool.false_or, Bool.or_self, List.any_cons, List.any_nil, List.headD_cons, noref, isRef, small, import_, AV.any, AV.anys, isPtr, finV, rename, noPtr, isBad, AV.isUndef, St.setRow, AV.shutV, rebuild, isAggV, evBuild, fillCells, List.range_zero, List.range_succ, List.flatMap_cons, List.flatMap_nil, List.filter_nil, List.filter_cons, List.mem_cons, List.not_mem_nil, or_false, false_or, or_true, true_or, decide_not, ne_eq, not_true_eq_false, not_false_eq_true, Option.isSome_some, Option.getD_some, Option.getD_none, beq_self_eq_true, firstRegion, gc, keptBoxes, keptRows, dedup, nodupB, idx, renameB, AV.boxes, AV.boxess, AV.rows, AV.rowss, AV.mapO, AV.mapOs, plan_6_17, ifEv_bool, gate_bool, gateQ_bool, pick_bool, SN, evCutRow, Bool.true_or, Bool.false_or, Bool.or_true, Bool.or_false, Int.reduceToNat, id_eq, Int.toNat_natCast, Int.natCast_nonneg, List.getElem?_map, List.length_map, Int.lt_irrefl, Int.toNat_zero, Int.reduceBEq, Int.reduceLE, Int.reduceLT, SS, List.length_cons, List.length_nil, List.getElem?_cons_zero, List.getElem?_cons_succ, Option.bind_some, Option.map_some, beq_true, beq_false, decide_eq_true_eq, Bool.not_eq_true', decide_eq_false_iff_not, List.map_cons, List.map_nil, List.append_nil, Bool.true_and, Bool.false_and, Bool.and_true, Bool.and_false, decide_true, decide_false, Bool.false_eq_true, Bool.not_true, Bool.not_false, List.all_cons, List.all_nil, List.drop_zero, List.drop_succ_cons, List.drop_nil, List.take_succ_cons, List.take_zero, List.take_nil, List.head?_cons, List.cons_append, List.nil_append, Nat.le_refl, Nat.zero_le, List.length_take, List.length_drop, and_self, and_true, true_and, Nat.zero_add, Nat.add_zero, TIS, wanted, numbered, plainC, plainS, evEq, eqK, evBox, evAlloc, evStore, evLoad, evFieldAddr, behind, takeVal, AV.cells, AV.isCell, ofCells, ofCell, Value.cells, Nat.reduceAdd, Nat.reduceEqDiff, Nat.reduceLT, Nat.reduceLeDiff, Nat.reduceMul, Nat.reduceSub, reduceIte]
        repeat' (split <;> (rename_i h; (try simp -implicitDefEqProofs only [Bool.not_eq_true', Bool.not_eq_false', decide_eq_true_eq, decide_eq_false_iff_not] at h); (try simp -implicitDefEqProofs only [*, Policy.encO, enc_Cond, enc_Policy, s0, s1, d0, cd0, bne, SO, evBuildSlice, elemsOf, zeroOK, evAppend, rowOf, List.size_toArray, Bool.or_false, Bool.false_or, Bool.or_self, List.any_cons, List.any_nil, List.headD_cons, noref, isRef, small, import_, AV.any, AV.anys, isPtr, finV, rename, noPtr, isBad, AV.isUndef, St.setRow, AV.shutV, rebuild, isAggV, evBuild, fillCells, List.range_zero, List.range_succ, List.flatMap_cons, List.flatMap_nil, List.filter_nil, List.filter_cons, List.mem_cons, List.not_mem_nil, or_false, false_or, or_true, true_or, decide_not, ne_eq, not_true_eq_false, not_false_eq_true, Option.isSome_some, Option.getD_some, Option.getD_none, beq_self_eq_true, firstRegion, gc, keptBoxes, keptRows, dedup, nodupB, idx, renameB, AV.boxes, AV.boxess, AV.rows, AV.rowss, AV.mapO, AV.mapOs, plan_6_17, ifEv_bool, gate_bool, gateQ_bool, pick_bool, SN, evCutRow, Bool.true_or, Bool.false_or, Bool.or_true, Bool.or_false, Int.reduceToNat, id_eq, Int.toNat_natCast, Int.natCast_nonneg, List.getElem?_map, List.length_map, Int.lt_irrefl, Int.toNat_zero, Int.reduceBEq, Int.reduceLE, Int.reduceLT, SS, List.length_cons, List.length_nil, List.getElem?_cons_zero, List.getElem?_cons_succ, Option.bind_some, Option.map_some, beq_true, beq_false, decide_eq_true_eq, Bool.not_eq_true', decide_eq_false_iff_not, List.map_cons, List.map_nil, List.append_nil, Bool.true_and, Bool.false_and, Bool.and_true, Bool.and_false, decide_true, decide_false, Bool.false_eq_true, Bool.not_true, Bool.not_false, List.all_cons, List.all_nil, List.drop_zero, List.drop_succ_cons, List.drop_nil, List.take_succ_cons, List.take_zero, List.take_nil, List.head?_cons, List.cons_append, List.nil_append, Nat.le_refl, Nat.zero_le, List.length_take, List.length_drop, and_self, and_true, true_and, Nat.zero_add, Nat.add_zero, TIS, wanted, numbered, plainC, plainS, evEq, eqK, evBox, evAlloc, evStore, evLoad, evFieldAddr, behind, takeVal, AV.cells, AV.isCell, ofCells, ofCell, Value.cells, Nat.reduceAdd, Nat.reduceEqDiff, Nat.reduceLT, Nat.reduceLeDiff, Nat.reduceMul, Nat.reduceSub, reduceIte])))
    ·
      have s0 := r_laws_szPolicy (fl := false) (k - 1) x0 (by omega) h0 1048576 (by omega) (by omega)
      have z0 : left 1048576 (x0.w) = -1 := left_gt (by omega)
      rw [z0] at s0
      obtain ⟨k, rfl⟩ : ∃ j, k = j + 1 := ⟨k - 1, by omega⟩
      rw [run_succ rfl rfl, body_eq (nt := 69) (fn := Go.Proofs.Try.f6) (by kernel_rfl) rfl rfl rfl rfl]
      simp -implicitDefEqProofs only [Nat.add_sub_cancel, decide_true, Policy.encO, enc_Cond, enc_Policy] at s0
      simp -implicitDefEqProofs only [Go.Proofs.Try.f6, Policy.encO, enc_Cond, enc_Policy, s0, cd0, bne, SO, evBuildSlice, elemsOf, zeroOK, evAppend, rowOf, List.size_toArray, Bool.or_false, Bool.false_or, Bool.or_self, List.any_cons, List.any_nil, List.headD_cons, noref, isRef, small, import_, AV.any, AV.anys, isPtr, finV, rename, noPtr, isBad, AV.isUndef, St.setRow, AV.shutV, rebuild, isAggV, evBuild, fillCells, List.range_zero, List.range_succ, List.flatMap_cons, List.flatMap_nil, List.filter_nil, List.filter_cons, List.mem_cons, List.not_mem_nil, or_false, false_or, or_true, true_or, decide_not, ne_eq, not_true_eq_false, not_false_eq_true, Option.isSome_some, Option.getD_some, Option.getD_none, beq_self_eq_true, firstRegion, gc, keptBoxes, keptRows, dedup, nodupB, idx, renameB, AV.boxes, AV.boxess, AV.rows, AV.rowss, AV.mapO, AV.mapOs, plan_6_17, ifEv_bool, gate_bool, gateQ_bool, pick_bool, SN, evCutRow, Bool.true_or, Bool.false_or, Bool.or_true, Bool.or_false, Int.reduceToNat, id_eq, Int.toNat_natCast, Int.natCast_nonneg, List.getElem?_map, List.length_map, Int.lt_irrefl, Int.toNat_zero, Int.reduceBEq, Int.reduceLE, Int.reduceLT, SS, List.length_cons, List.length_nil, List.getElem?_cons_zero, List.getElem?_cons_succ, Option.bind_some, Option.map_some, beq_true, beq_false, decide_eq_true_eq, Bool.not_eq_true', decide_eq_false_iff_not, List.map_cons, List.map_nil, List.append_nil, Bool.true_and, Bool.false_and, Bool.and_true, Bool.and_false, decide_true, decide_false, Bool.false_eq_true, Bool.not_true, Bool.not_false, List.all_cons, List.all_nil, List.drop_zero, List.drop_succ_cons, List.drop_nil, List.take_succ_cons, List.take_zero, List.take_nil, List.head?_cons, List.cons_append, List.nil_append, Nat.le_refl, Nat.zero_le, List.length_take, List.length_drop, and_self, and_true, true_and, Nat.zero_add, Nat.add_zero, TIS, wanted, numbered, plainC, plainS, evEq, eqK, evBox, evAlloc, evStore, evLoad, evFieldAddr, behind, takeVal, AV.cells, AV.isCell, ofCells, ofCell, Value.cells, Nat.reduceAdd, Nat.reduceEqDiff, Nat.reduceLT, Nat.reduceLeDiff, Nat.reduceMul, Nat.reduceSub, reduceIte]
      repeat' (split <;> (rename_i h; (try simp -implicitDefEqProofs only [Bool.not_eq_true', Bool.not_eq_false', decide_eq_true_eq, decide_eq_false_iff_not] at h); (try simp -implicitDefEqProofs only [*, Policy.encO, enc_Cond, enc_Policy, s0, cd0, bne, SO, evBuildSlice, elemsOf, zeroOK, evAppend, rowOf, List.size_toArray, Bool.or_false, Bool.false_or, Bool.or_self, List.any_cons, List.any_nil, List.headD_cons, noref, isRef, small, import_, AV.any, AV.anys, isPtr, finV, rename, noPtr, isBad, AV.isUndef, St.setRow, AV.shutV, rebuild, isAggV, evBuild, fillCells, List.range_zero, List.range_succ, List.flatMap_cons, List.flatMap_nil, List.filter_nil, List.filter_cons, List.mem_cons, List.not_mem_nil, or_false, false_or, or_true, true_or, decide_not, ne_eq, not_true_eq_false, not_false_eq_true, Option.isSome_some, Option.getD_some, Option.getD_none, beq_self_eq_true, firstRegion, gc, keptBoxes, keptRows, dedup, nodupB, idx, renameB, AV.boxes, AV.boxess, AV.rows, AV.rowss, AV.mapO, AV.mapOs, plan_6_17, ifEv_bool, gate_bool, gateQ_bool, pick_bool, SN, evCutRow, Bool.true_or, Bool.false_or, Bool.or_true, Bool.or_false, Int.reduceToNat, id_eq, Int.toNat_natCast, Int.natCast_nonneg, List.getElem?_map, List.length_map, Int.lt_irrefl, Int.toNat_zero, Int.reduceBEq, Int.reduceLE, Int.reduceLT, SS, List.length_cons, List.length_nil, List.getElem?_cons_zero, List.getElem?_cons_succ, Option.bind_some, Option.map_some, beq_true, beq_false, decide_eq_true_eq, Bool.not_eq_true', decide_eq_false_iff_not, List.map_cons, List.map_nil, List.append_nil, Bool.true_and, Bool.false_and, Bool.and_true, Bool.and_false, decide_true, decide_false, Bool.false_eq_true, Bool.not_true, Bool.not_false, List.all_cons, List.all_nil, List.drop_zero, List.drop_succ_cons, List.drop_nil, List.take_succ_cons, List.take_zero, List.take_nil, List.head?_cons, List.cons_append, List.nil_append, Nat.le_refl, Nat.zero_le, List.length_take, List.length_drop, and_self, and_true, true_and, Nat.zero_add, Nat.add_zero, TIS, wanted, numbered, plainC, plainS, evEq, eqK, evBox, evAlloc, evStore, evLoad, evFieldAddr, behind, takeVal, AV.cells, AV.isCell, ofCells, ofCell, Value.cells, Nat.reduceAdd, Nat.reduceEqDiff, Nat.reduceLT, Nat.reduceLeDiff, Nat.reduceMul, Nat.reduceSub, reduceIte])))
  ·
    have cd0 : decide ((1048576 : Int) < (x4.length : Int)) = true := decide_eq_true (by omega)
    obtain ⟨k, rfl⟩ : ∃ j, k = j + 1 := ⟨k - 1, by omega⟩
    rw [run_succ rfl rfl, body_eq (nt := 69) (fn := Go.Proofs.Try.f6) (by kernel_rfl) rfl rfl rfl rfl]
    simp -implicitDefEqProofs only [Go.Proofs.Try.f6, Policy.encO, enc_Cond, enc_Policy, cd0, bne, SO, evBuildSlice, elemsOf, zeroOK, evAppend, rowOf, List.size_toArray, Bool.or_false, Bool.false_or, Bool.or_self, List.any_cons, List.any_nil, List.headD_cons, noref, isRef, small, import_, AV.any, AV.anys, isPtr, finV, rename, noPtr, isBad, AV.isUndef, St.setRow, AV.shutV, rebuild, isAggV, evBuild, fillCells, List.range_zero, List.range_succ, List.flatMap_cons, List.flatMap_nil, List.filter_nil, List.filter_cons, List.mem_cons, List.not_mem_nil, or_false, false_or, or_true, true_or, decide_not, ne_eq, not_true_eq_false, not_false_eq_true, Option.isSome_some, Option.getD_some, Option.getD_none, beq_self_eq_true, firstRegion, gc, keptBoxes, keptRows, dedup, nodupB, idx, renameB, AV.boxes, AV.boxess, AV.rows, AV.rowss, AV.mapO, AV.mapOs, plan_6_17, ifEv_bool, gate_bool, gateQ_bool, pick_bool, SN, evCutRow, Bool.true_or, Bool.false_or, Bool.or_true, Bool.or_false, Int.reduceToNat, id_eq, Int.toNat_natCast, Int.natCast_nonneg, List.getElem?_map, List.length_map, Int.lt_irrefl, Int.toNat_zero, Int.reduceBEq, Int.reduceLE, Int.reduceLT, SS, List.length_cons, List.length_nil, List.getElem?_cons_zero, List.getElem?_cons_succ, Option.bind_some, Option.map_some, beq_true, beq_false, decide_eq_true_eq, Bool.not_eq_true', decide_eq_false_iff_not, List.map_cons, List.map_nil, List.append_nil, Bool.true_and, Bool.false_and, Bool.and_true, Bool.and_false, decide_true, decide_false, Bool.false_eq_true, Bool.not_true, Bool.not_false, List.all_cons, List.all_nil, List.drop_zero, List.drop_succ_cons, List.drop_nil, List.take_succ_cons, List.take_zero, List.take_nil, List.head?_cons, List.cons_append, List.nil_append, Nat.le_refl, Nat.zero_le, List.length_take, List.length_drop, and_self, and_true, true_and, Nat.zero_add, Nat.add_zero, TIS, wanted, numbered, plainC, plainS, evEq, eqK, evBox, evAlloc, evStore, evLoad, evFieldAddr, behind, takeVal, AV.cells, AV.isCell, ofCells, ofCell, Value.cells, Nat.reduceAdd, Nat.reduceEqDiff, Nat.reduceLT, Nat.reduceLeDiff, Nat.reduceMul, Nat.reduceSub, reduceIte]
    repeat' (split <;> (rename_i h; (try simp -implicitDefEqProofs only [Bool.not_eq_true', Bool.not_eq_false', decide_eq_true_eq, decide_eq_false_iff_not] at h); (try simp -implicitDefEqProofs only [*, Policy.encO, enc_Cond, enc_Policy, cd0, bne, SO, evBuildSlice, elemsOf, zeroOK, evAppend, rowOf, List.size_toArray, Bool.or_false, Bool.false_or, Bool.or_self, List.any_cons, List.any_nil, List.headD_cons, noref, isRef, small, import_, AV.any, AV.anys, isPtr, finV, rename, noPtr, isBad, AV.isUndef, St.setRow, AV.shutV, rebuild, isAggV, evBuild, fillCells, List.range_zero, List.range_succ, List.flatMap_cons, List.flatMap_nil, List.filter_nil, List.filter_cons, List.mem_cons, List.not_mem_nil, or_false, false_or, or_true, true_or, decide_not, ne_eq, not_true_eq_false, not_false_eq_true, Option.isSome_some, Option.getD_some, Option.getD_none, beq_self_eq_true, firstRegion, gc, keptBoxes, keptRows, dedup, nodupB, idx, renameB, AV.boxes, AV.boxess, AV.rows, AV.rowss, AV.mapO, AV.mapOs, plan_6_17, ifEv_bool, gate_bool, gateQ_bool, pick_bool, SN, evCutRow, Bool.true_or, Bool.false_or, Bool.or_true, Bool.or_false, Int.reduceToNat, id_eq, Int.toNat_natCast, Int.natCast_nonneg, List.getElem?_map, List.length_map, Int.lt_irrefl, Int.toNat_zero, Int.reduceBEq, Int.reduceLE, Int.reduceLT, SS, List.length_cons, List.length_nil, List.getElem?_cons_zero, List.getElem?_cons_succ, Option.bind_some, Option.map_some, beq_true, beq_false, decide_eq_true_eq, Bool.not_eq_true', decide_eq_false_iff_not, List.map_cons, List.map_nil, List.append_nil, Bool.true_and, Bool.false_and, Bool.and_true, Bool.and_false, decide_true, decide_false, Bool.false_eq_true, Bool.not_true, Bool.not_false, List.all_cons, List.all_nil, List.drop_zero, List.drop_succ_cons, List.drop_nil, List.take_succ_cons, List.take_zero, List.take_nil, List.head?_cons, List.cons_append, List.nil_append, Nat.le_refl, Nat.zero_le, List.length_take, List.length_drop, and_self, and_true, true_and, Nat.zero_add, Nat.add_zero, TIS, wanted, numbered, plainC, plainS, evEq, eqK, evBox, evAlloc, evStore, evLoad, evFieldAddr, behind, takeVal, AV.cells, AV.isCell, ofCells, ofCell, Value.cells, Nat.reduceAdd, Nat.reduceEqDiff, Nat.reduceLT, Nat.reduceLeDiff, Nat.reduceMul, Nat.reduceSub, reduceIte])))
end
open Go.ChangeShapes Go.WideShapes Go.ChangeAt Go.RowKit Flat
theorem own : ownKnob Try.prog.godebug = none := by kernel_rfl
theorem laidOut : laidOutB Try.prog = true := by kernel_rfl
set_option maxRecDepth 100000 in
theorem lifted (os : Os) (started : os.Started) (H : Type) (enc : TypeId × Value → H) :
    ReturnsInHanded {} Try.checked os 6 .any (Rows.fnExactPolicyBySpec.pre6 enc Try.prog Try.f6 Rows.fnExactPolicyByRow.domain false) (Rows.fnExactPolicyBySpec.post enc Try.prog Try.f6 false true false false) := by
  refine returnsInHanded_of_change_sized (C := Try.checked) own started (by kernel_rfl) Try.func6
    (ChangeSpec.witness6 (enc := enc) (C := Try.checked) false ⟨#[], #[.agg #[.int .i64 0, .slice none 0 0], .int .i64 0, .int .i64 0, .slice none 0 0, .slice none 0 0], []⟩ 8 (by kernel_rfl) (by kernel_rfl) (by kernel_rfl) (by kernel_rfl)) ?_
  intro W base args ds gs before hval0 hW hcnd hsz0 _
  have hsz : (DataW.weightsEach Try.prog (Try.f6.params.toList ++ Rows.fnExactPolicyBySpec.plain.varTypes Try.prog) (ds ++ gs)).all (· ≤ reachBytes) = true := hsz0
  have hval : ∀ (j : Nat) t v, Try.f6.params[j]? = some t → args[j]? = some v → Value.okWide Try.prog W .any base t v := hval0
  have hW' := hW
  obtain ⟨p, q, hA0, hV, rfl, hfz, hnd⟩ := hW
  have hA : DataW.TrodAll enc Try.prog W 0 (fun _ => true) true Try.f6.params.toList args.toList ds p := hA0
  rw [Try.params6] at hA hval hsz
  obtain ⟨v0, vs0, d0, ds0, p0, q0, hargs, rfl, rfl, h0, r0⟩ := trodAll_cons hA
  obtain ⟨v1, vs1, d1, ds1, p1, q1, rfl, rfl, rfl, h1, r1⟩ := trodAll_cons r0
  obtain ⟨v2, vs2, d2, ds2, p2, q2, rfl, rfl, rfl, h2, r2⟩ := trodAll_cons r1
  obtain ⟨v3, vs3, d3, ds3, p3, q3, rfl, rfl, rfl, h3, r3⟩ := trodAll_cons r2
  obtain ⟨v4, vs4, d4, ds4, p4, q4, rfl, rfl, rfl, h4, r4⟩ := trodAll_cons r3
  obtain ⟨rfl, rfl, rfl⟩ := trodAll_nil r4
  obtain rfl : args = #[v0, v1, v2, v3, v4] := by cases args; simp_all
  obtain ⟨rfl, rfl⟩ := trodVars_none hV
  have lt0 : ∀ x ∈ p0, x.block < W.heap.size := by obtain ⟨m, hm⟩ := h0; exact DataW.trod_lt m _ _ _ hm
  obtain ⟨n0, a0, ty0, ro0⟩ := handed (P := Try.prog) (ts := [41, 3, 39, 164, 24, 22]) (by kernel_rfl) (by kernel_rfl) (hval 0 41 v0 rfl rfl) h0 (weights_each hsz 0 41 d0 rfl rfl)
  obtain ⟨x0, rfl, fit0⟩ := shape_41 n0 a0 ty0
  have lt1 : ∀ x ∈ p1, x.block < W.heap.size := by obtain ⟨m, hm⟩ := h1; exact DataW.trod_lt m _ _ _ hm
  obtain ⟨n1, a1, ty1, ro1⟩ := handed (P := Try.prog) (ts := [3]) (by kernel_rfl) (by kernel_rfl) (hval 1 3 v1 rfl rfl) h1 (weights_each hsz 1 3 d1 rfl rfl)
  obtain ⟨x1, rfl, _⟩ := typed_int Try.underlying3 ty1
  have lt2 : ∀ x ∈ p2, x.block < W.heap.size := by obtain ⟨m, hm⟩ := h2; exact DataW.trod_lt m _ _ _ hm
  obtain ⟨n2, a2, ty2, ro2⟩ := handed (P := Try.prog) (ts := [3]) (by kernel_rfl) (by kernel_rfl) (hval 2 3 v2 rfl rfl) h2 (weights_each hsz 2 3 d2 rfl rfl)
  obtain ⟨x2, rfl, _⟩ := typed_int Try.underlying3 ty2
  have lt3 : ∀ x ∈ p3, x.block < W.heap.size := by obtain ⟨m, hm⟩ := h3; exact DataW.trod_lt m _ _ _ hm
  obtain ⟨n3, a3, ty3, ro3⟩ := handed (P := Try.prog) (ts := [22, 24, 3]) (by kernel_rfl) (by kernel_rfl) (hval 3 22 v3 rfl rfl) h3 (weights_each hsz 3 22 d3 rfl rfl)
  obtain ⟨x3, rfl, fit3⟩ := shape_22 n3 a3 ty3
  have lt4 : ∀ x ∈ p4, x.block < W.heap.size := by obtain ⟨m, hm⟩ := h4; exact DataW.trod_lt m _ _ _ hm
  obtain ⟨n4, a4, ty4, ro4⟩ := handed (P := Try.prog) (ts := [25, 4]) (by kernel_rfl) (by kernel_rfl) (hval 4 25 v4 rfl rfl) h4 (weights_each hsz 4 25 d4 rfl rfl)
  obtain ⟨x4, rfl, fit4⟩ := shape_25 n4 a4 ty4
  refine (law_ok mixed sound hkill hmd (ext := noExt) (fun f g hg => by simp [noExt] at hg) (reckoned x0 x1 x2 x3 x4 fit0 fit3 fit4 _ (Nat.le_refl _)) (args := #[v0, v1, v2, v3, v4]) (W := W) rfl (fun j hj => by
    rcases j with _ | _ | _ | _ | _ | j
    · exact ro0
    · exact ro1
    · exact ro2
    · exact ro3
    · exact ro4
    · simp at hj; omega)).mono fun e W' ⟨he, bel⟩ => ?_
  subst he
  exact ⟨_, rfl, _, _, _, [], _, [], hW', trodAll_mk1 (shut_bool Try.underlying4 _), (trodAll_cons_mk (Below.trod laidOut (by kernel_rfl) (of_decide_eq_true (by kernel_rfl)) h0 bel lt0) (trodAll_cons_mk (Below.trod laidOut (by kernel_rfl) (of_decide_eq_true (by kernel_rfl)) h1 bel lt1) (trodAll_cons_mk (Below.trod laidOut (by kernel_rfl) (of_decide_eq_true (by kernel_rfl)) h2 bel lt2) (trodAll_cons_mk (Below.trod laidOut (by kernel_rfl) (of_decide_eq_true (by kernel_rfl)) h3 bel lt3) (trodAll_cons_mk (Below.trod laidOut (by kernel_rfl) (of_decide_eq_true (by kernel_rfl)) h4 bel lt4) trodAll_mk0))))), rfl, bel.frame _, fun h => by cases h⟩
theorem over : Rows.fnExactPolicyByRow.holds Try.pinned (OpenSpec.ofChange Rows.fnExactPolicyBySpec) :=
  OpenClaim.holds_of_wide 6 Try.f6 rfl rfl rfl rfl rfl rfl rfl ⟨rfl, rfl, rfl, rfl, rfl⟩ rfl rfl rfl rfl rfl (by kernel_rfl) Try.func6 (by kernel_rfl)
    (of_decide_eq_true (by kernel_rfl)) (by unfold Func.isWrapper; first | (rw [if_pos (by decide +kernel)]; kernel_rfl) | (rw [if_neg (by decide +kernel)]; exact ⟨rfl, rfl⟩))
    (fun os started H enc _ => lifted os started H enc)
theorem proved : Rows.FnExactPolicyBySaid := over
#print axioms proved
end Go.Proofs.Ytecffiaopdancaa.fnExactPolicyBy
namespace Go.Proofs.Ytecffiaopdancaa
/-- The row, under a short name, for the claim. -/
theorem fnExactPolicyBy_holds : Rows.FnExactPolicyBySaid := fnExactPolicyBy.proved
end Go.Proofs.Ytecffiaopdancaa
