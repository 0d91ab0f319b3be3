/-
The law of AnswerOf: it answers true, whatever it is handed.
-/
import Derived.Test.YtogjbacgkcodmaaRows
import Derived.Test.YtogjbacgkcodmaaEqS
import Derived.Test.YtogjbacgkcodmaaEqZ
import Derived.Test.YtogjbacgkcodmaaEqT
import Derived.Test.YtogjbacgkcodmaaEqQ
import Derived.Test.YtogjbacgkcodmaaEqM
import Derived.WalkKit
import Derived.ProofKit
import Derived.OpenShut
import Derived.ShutString
import Derived.ChangeOld
import Derived.Below
import Derived.SizedLaws
import Derived.Carry
set_option linter.unusedVariables false
set_option linter.unusedSimpArgs false
set_option maxRecDepth 10000
namespace Go.Proofs.Ytogjbacgkcodmaa.fnExactAnswerOf
section
open Flat
theorem reckoned (x0 : Diagram) (x1 : List Bool) (h0 : x0.fits) (h1 : FitL (fun _ => True) x1) (k : Nat) (hk : 1152921504606846976 + 4 * ((x0.w) + (x1.length)) + 60 ≤ k) : run E noExt k 9 [x0.enc false, .sl false (x1.map AV.bool)] [] = some (.bool true, []) := by
  by_cases c0 : x1.length ≤ 1048576
  ·
    have cd0 : decide ((1048576 : Int) < (x1.length : Int)) = false := decide_eq_false (by omega)
    by_cases b0 : (((x0.w) : Nat) : Int) ≤ 1048576
    ·
      have s0 := r_laws_szDiagram (fl := false) (k - 1) x0 (by omega) h0 1048576 (by omega) (by omega)
      have z0 : left 1048576 (x0.w) = 1048576 - (((x0.w) : Nat) : Int) := (left_le (by omega)).trans (by omega)
      have d0 : decide ((1048576 : Int) - (((x0.w) : Nat) : Int) < 0) = false := decide_eq_false (by omega)
      rw [z0] at s0
      have t0 := r_laws_toDiagram (fl := false) (k - 1) (by omega) x0 (by omega)
      have t1 := r_laws_toBoolS (fl := false) (k - 1) (by omega) x1 (by omega)
      have e0 := r_laws_eqDiagram (fl := true) (gl := true) (k - 1) (by omega) x0 x0 (by omega)
      have e1 := r_laws_eqBoolS (fl := true) (gl := true) (k - 1) (by omega) x1 x1 (by omega)
      have f0 := r_spec_AnswerOf (fl := true) (f2 := true) (k - 1) (by omega) x0 (by omega) x1 (by omega)
      have f1 := r_impl_AnswerOf (fl := true) (f2 := true) (k - 1) (by omega) x0 (by omega) x1 (by omega)
      obtain ⟨k, rfl⟩ : ∃ j, k = j + 1 := ⟨k - 1, by omega⟩
      rw [run_succ rfl rfl, body_eq (nt := 43) (fn := Go.Proofs.Try.f9) (by kernel_rfl) rfl rfl rfl rfl]
      simp -implicitDefEqProofs only [Nat.add_sub_cancel, decide_true, Diagram.encO, enc_Diagram] at s0 t0 t1 e0 e1 f0 f1
      simp -implicitDefEqProofs only [Go.Proofs.Try.f9, Diagram.encO, enc_Diagram, s0, t0, t1, e0, e1, f0, f1, d0, cd0, bne, SO, evBuildSlice, elemsOf, zeroOK, evAppend, rowOf, List.size_toArray, Bool.or_false, Bool.false_or, Bool.or_self, List.any_cons, List.any_nil, List.headD_cons, noref, isRef, small, import_, AV.any, AV.anys, isPtr, finV, rename, noPtr, isBad, AV.isUndef, St.setRow, AV.shutV, rebuild, isAggV, evBuild, fillCells, List.range_zero, List.range_succ, List.flatMap_cons, List.flatMap_nil, List.filter_nil, List.filter_cons, List.mem_cons, List.not_mem_nil, or_false, false_or, or_true, true_or, decide_not, ne_eq, not_true_eq_false, not_false_eq_true, Option.isSome_some, Option.getD_some, Option.getD_none, beq_self_eq_true, firstRegion, gc, keptBoxes, keptRows, dedup, nodupB, idx, renameB, AV.boxes, AV.boxess, AV.rows, AV.rowss, AV.mapO, AV.mapOs, plan_9_13, ifEv_bool, gate_bool, gateQ_bool, pick_bool, SN, evCutRow, Bool.true_or, Bool.false_or, Bool.or_true, Bool.or_false, Int.reduceToNat, id_eq, Int.toNat_natCast, Int.natCast_nonneg, List.getElem?_map, List.length_map, Int.lt_irrefl, Int.toNat_zero, Int.reduceBEq, Int.reduceLE, Int.reduceLT, SS, List.length_cons, List.length_nil, List.getElem?_cons_zero, List.getElem?_cons_succ, Option.bind_some, Option.map_some, beq_true, beq_false, decide_eq_true_eq, Bool.not_eq_true', decide_eq_false_iff_not, List.map_cons, List.map_nil, List.append_nil, Bool.true_and, Bool.false_and, Bool.and_true, Bool.and_false, decide_true, decide_false, Bool.false_eq_true, Bool.not_true, Bool.not_false, List.all_cons, List.all_nil, List.drop_zero, List.drop_succ_cons, List.drop_nil, List.take_succ_cons, List.take_zero, List.take_nil, List.head?_cons, List.cons_append, List.nil_append, Nat.le_refl, Nat.zero_le, List.length_take, List.length_drop, and_self, and_true, true_and, Nat.zero_add, Nat.add_zero, TIS, wanted, numbered, plainC, plainS, evEq, eqK, evBox, evAlloc, evStore, evLoad, evFieldAddr, behind, takeVal, AV.cells, AV.isCell, ofCells, ofCell, Value.cells, Nat.reduceAdd, Nat.reduceEqDiff, Nat.reduceLT, Nat.reduceLeDiff, Nat.reduceMul, Nat.reduceSub, reduceIte]
      repeat' (split <;> (rename_i h; (try simp -implicitDefEqProofs only [Bool.not_eq_true', Bool.not_eq_false', decide_eq_true_eq, decide_eq_false_iff_not] at h); (try simp -implicitDefEqProofs only [*, Diagram.encO, enc_Diagram, s0, t0, t1, e0, e1, f0, f1, d0, cd0, bne, SO, evBuildSlice, elemsOf, zeroOK, evAppend, rowOf, List.size_toArray, Bool.or_false, Bool.false_or, Bool.or_self, List.any_cons, List.any_nil, List.headD_cons, noref, isRef, small, import_, AV.any, AV.anys, isPtr, finV, rename, noPtr, isBad, AV.isUndef, St.setRow, AV.shutV, rebuild, isAggV, evBuild, fillCells, List.range_zero, List.range_succ, List.flatMap_cons, List.flatMap_nil, List.filter_nil, List.filter_cons, List.mem_cons, List.not_mem_nil, or_false, false_or, or_true, true_or, decide_not, ne_eq, not_true_eq_false, not_false_eq_true, Option.isSome_some, Option.getD_some, Option.getD_none, beq_self_eq_true, firstRegion, gc, keptBoxes, keptRows, dedup, nodupB, idx, renameB, AV.boxes, AV.boxess, AV.rows, AV.rowss, AV.mapO, AV.mapOs, plan_9_13, ifEv_bool, gate_bool, gateQ_bool, pick_bool, SN, evCutRow, Bool.true_or, Bool.false_or, Bool.or_true, Bool.or_false, Int.reduceToNat, id_eq, Int.toNat_natCast, Int.natCast_nonneg, List.getElem?_map, List.length_map, Int.lt_irrefl, Int.toNat_zero, Int.reduceBEq, Int.reduceLE, Int.reduceLT, SS, List.length_cons, List.length_nil, List.getElem?_cons_zero, List.getElem?_cons_succ, Option.bind_some, Option.map_some, beq_true, beq_false, decide_eq_true_eq, Bool.not_eq_true', decide_eq_false_iff_not, List.map_cons, List.map_nil, List.append_nil, Bool.true_and, Bool.false_and, Bool.and_true, Bool.and_false, decide_true, decide_false, Bool.false_eq_true, Bool.not_true, Bool.not_false, List.all_cons, List.all_nil, List.drop_zero, List.drop_succ_cons, List.drop_nil, List.take_succ_cons, List.take_zero, List.take_nil, List.head?_cons, List.cons_append, List.nil_append, Nat.le_refl, Nat.zero_le, List.length_take, List.length_drop, and_self, and_true, true_and, Nat.zero_add, Nat.add_zero, TIS, wanted, numbered, plainC, plainS, evEq, eqK, evBox, evAlloc, evStore, evLoad, evFieldAddr, behind, takeVal, AV.cells, AV.isCell, ofCells, ofCell, Value.cells, Nat.reduceAdd, Nat.reduceEqDiff, Nat.reduceLT, Nat.reduceLeDiff, Nat.reduceMul, Nat.reduceSub, reduceIte])))
    ·
      have s0 := r_laws_szDiagram (fl := false) (k - 1) x0 (by omega) h0 1048576 (by omega) (by omega)
      have z0 : left 1048576 (x0.w) = -1 := left_gt (by omega)
      rw [z0] at s0
      obtain ⟨k, rfl⟩ : ∃ j, k = j + 1 := ⟨k - 1, by omega⟩
      rw [run_succ rfl rfl, body_eq (nt := 43) (fn := Go.Proofs.Try.f9) (by kernel_rfl) rfl rfl rfl rfl]
      simp -implicitDefEqProofs only [Nat.add_sub_cancel, decide_true, Diagram.encO, enc_Diagram] at s0
      simp -implicitDefEqProofs only [Go.Proofs.Try.f9, Diagram.encO, enc_Diagram, s0, cd0, bne, SO, evBuildSlice, elemsOf, zeroOK, evAppend, rowOf, List.size_toArray, Bool.or_false, Bool.false_or, Bool.or_self, List.any_cons, List.any_nil, List.headD_cons, noref, isRef, small, import_, AV.any, AV.anys, isPtr, finV, rename, noPtr, isBad, AV.isUndef, St.setRow, AV.shutV, rebuild, isAggV, evBuild, fillCells, List.range_zero, List.range_succ, List.flatMap_cons, List.flatMap_nil, List.filter_nil, List.filter_cons, List.mem_cons, List.not_mem_nil, or_false, false_or, or_true, true_or, decide_not, ne_eq, not_true_eq_false, not_false_eq_true, Option.isSome_some, Option.getD_some, Option.getD_none, beq_self_eq_true, firstRegion, gc, keptBoxes, keptRows, dedup, nodupB, idx, renameB, AV.boxes, AV.boxess, AV.rows, AV.rowss, AV.mapO, AV.mapOs, plan_9_13, ifEv_bool, gate_bool, gateQ_bool, pick_bool, SN, evCutRow, Bool.true_or, Bool.false_or, Bool.or_true, Bool.or_false, Int.reduceToNat, id_eq, Int.toNat_natCast, Int.natCast_nonneg, List.getElem?_map, List.length_map, Int.lt_irrefl, Int.toNat_zero, Int.reduceBEq, Int.reduceLE, Int.reduceLT, SS, List.length_cons, List.length_nil, List.getElem?_cons_zero, List.getElem?_cons_succ, Option.bind_some, Option.map_some, beq_true, beq_false, decide_eq_true_eq, Bool.not_eq_true', decide_eq_false_iff_not, List.map_cons, List.map_nil, List.append_nil, Bool.true_and, Bool.false_and, Bool.and_true, Bool.and_false, decide_true, decide_false, Bool.false_eq_true, Bool.not_true, Bool.not_false, List.all_cons, List.all_nil, List.drop_zero, List.drop_succ_cons, List.drop_nil, List.take_succ_cons, List.take_zero, List.take_nil, List.head?_cons, List.cons_append, List.nil_append, Nat.le_refl, Nat.zero_le, List.length_take, List.length_drop, and_self, and_true, true_and, Nat.zero_add, Nat.add_zero, TIS, wanted, numbered, plainC, plainS, evEq, eqK, evBox, evAlloc, evStore, evLoad, evFieldAddr, behind, takeVal, AV.cells, AV.isCell, ofCells, ofCell, Value.cells, Nat.reduceAdd, Nat.reduceEqDiff, Nat.reduceLT, Nat.reduceLeDiff, Nat.reduceMul, Nat.reduceSub, reduceIte]
      repeat' (split <;> (rename_i h; (try simp -implicitDefEqProofs only [Bool.not_eq_true', Bool.not_eq_false', decide_eq_true_eq, decide_eq_false_iff_not] at h); (try simp -implicitDefEqProofs only [*, Diagram.encO, enc_Diagram, s0, cd0, bne, SO, evBuildSlice, elemsOf, zeroOK, evAppend, rowOf, List.size_toArray, Bool.or_false, Bool.false_or, Bool.or_self, List.any_cons, List.any_nil, List.headD_cons, noref, isRef, small, import_, AV.any, AV.anys, isPtr, finV, rename, noPtr, isBad, AV.isUndef, St.setRow, AV.shutV, rebuild, isAggV, evBuild, fillCells, List.range_zero, List.range_succ, List.flatMap_cons, List.flatMap_nil, List.filter_nil, List.filter_cons, List.mem_cons, List.not_mem_nil, or_false, false_or, or_true, true_or, decide_not, ne_eq, not_true_eq_false, not_false_eq_true, Option.isSome_some, Option.getD_some, Option.getD_none, beq_self_eq_true, firstRegion, gc, keptBoxes, keptRows, dedup, nodupB, idx, renameB, AV.boxes, AV.boxess, AV.rows, AV.rowss, AV.mapO, AV.mapOs, plan_9_13, ifEv_bool, gate_bool, gateQ_bool, pick_bool, SN, evCutRow, Bool.true_or, Bool.false_or, Bool.or_true, Bool.or_false, Int.reduceToNat, id_eq, Int.toNat_natCast, Int.natCast_nonneg, List.getElem?_map, List.length_map, Int.lt_irrefl, Int.toNat_zero, Int.reduceBEq, Int.reduceLE, Int.reduceLT, SS, List.length_cons, List.length_nil, List.getElem?_cons_zero, List.getElem?_cons_succ, Option.bind_some, Option.map_some, beq_true, beq_false, decide_eq_true_eq, Bool.not_eq_true', decide_eq_false_iff_not, List.map_cons, List.map_nil, List.append_nil, Bool.true_and, Bool.false_and, Bool.and_true, Bool.and_false, decide_true, decide_false, Bool.false_eq_true, Bool.not_true, Bool.not_false, List.all_cons, List.all_nil, List.drop_zero, List.drop_succ_cons, List.drop_nil, List.take_succ_cons, List.take_zero, List.take_nil, List.head?_cons, List.cons_append, List.nil_append, Nat.le_refl, Nat.zero_le, List.length_take, List.length_drop, and_self, and_true, true_and, Nat.zero_add, Nat.add_zero, TIS, wanted, numbered, plainC, plainS, evEq, eqK, evBox, evAlloc, evStore, evLoad, evFieldAddr, behind, takeVal, AV.cells, AV.isCell, ofCells, ofCell, Value.cells, Nat.reduceAdd, Nat.reduceEqDiff, Nat.reduceLT, Nat.reduceLeDiff, Nat.reduceMul, Nat.reduceSub, reduceIte])))
  ·
    have cd0 : decide ((1048576 : Int) < (x1.length : Int)) = true := decide_eq_true (by omega)
    obtain ⟨k, rfl⟩ : ∃ j, k = j + 1 := ⟨k - 1, by omega⟩
    rw [run_succ rfl rfl, body_eq (nt := 43) (fn := Go.Proofs.Try.f9) (by kernel_rfl) rfl rfl rfl rfl]
    simp -implicitDefEqProofs only [Go.Proofs.Try.f9, Diagram.encO, enc_Diagram, cd0, bne, SO, evBuildSlice, elemsOf, zeroOK, evAppend, rowOf, List.size_toArray, Bool.or_false, Bool.false_or, Bool.or_self, List.any_cons, List.any_nil, List.headD_cons, noref, isRef, small, import_, AV.any, AV.anys, isPtr, finV, rename, noPtr, isBad, AV.isUndef, St.setRow, AV.shutV, rebuild, isAggV, evBuild, fillCells, List.range_zero, List.range_succ, List.flatMap_cons, List.flatMap_nil, List.filter_nil, List.filter_cons, List.mem_cons, List.not_mem_nil, or_false, false_or, or_true, true_or, decide_not, ne_eq, not_true_eq_false, not_false_eq_true, Option.isSome_some, Option.getD_some, Option.getD_none, beq_self_eq_true, firstRegion, gc, keptBoxes, keptRows, dedup, nodupB, idx, renameB, AV.boxes, AV.boxess, AV.rows, AV.rowss, AV.mapO, AV.mapOs, plan_9_13, ifEv_bool, gate_bool, gateQ_bool, pick_bool, SN, evCutRow, Bool.true_or, Bool.false_or, Bool.or_true, Bool.or_false, Int.reduceToNat, id_eq, Int.toNat_natCast, Int.natCast_nonneg, List.getElem?_map, List.length_map, Int.lt_irrefl, Int.toNat_zero, Int.reduceBEq, Int.reduceLE, Int.reduceLT, SS, List.length_cons, List.length_nil, List.getElem?_cons_zero, List.getElem?_cons_succ, Option.bind_some, Option.map_some, beq_true, beq_false, decide_eq_true_eq, Bool.not_eq_true', decide_eq_false_iff_not, List.map_cons, List.map_nil, List.append_nil, Bool.true_and, Bool.false_and, Bool.and_true, Bool.and_false, decide_true, decide_false, Bool.false_eq_true, Bool.not_true, Bool.not_false, List.all_cons, List.all_nil, List.drop_zero, List.drop_succ_cons, List.drop_nil, List.take_succ_cons, List.take_zero, List.take_nil, List.head?_cons, List.cons_append, List.nil_append, Nat.le_refl, Nat.zero_le, List.length_take, List.length_drop, and_self, and_true, true_and, Nat.zero_add, Nat.add_zero, TIS, wanted, numbered, plainC, plainS, evEq, eqK, evBox, evAlloc, evStore, evLoad, evFieldAddr, behind, takeVal, AV.cells, AV.isCell, ofCells, ofCell, Value.cells, Nat.reduceAdd, Nat.reduceEqDiff, Nat.reduceLT, Nat.reduceLeDiff, Nat.reduceMul, Nat.reduceSub, reduceIte]
    repeat' (split <;> (rename_i h; (try simp -implicitDefEqProofs only [Bool.not_eq_true', Bool.not_eq_false', decide_eq_true_eq, decide_eq_false_iff_not] at h); (try simp -implicitDefEqProofs only [*, Diagram.encO, enc_Diagram, cd0, bne, SO, evBuildSlice, elemsOf, zeroOK, evAppend, rowOf, List.size_toArray, Bool.or_false, Bool.false_or, Bool.or_self, List.any_cons, List.any_nil, List.headD_cons, noref, isRef, small, import_, AV.any, AV.anys, isPtr, finV, rename, noPtr, isBad, AV.isUndef, St.setRow, AV.shutV, rebuild, isAggV, evBuild, fillCells, List.range_zero, List.range_succ, List.flatMap_cons, List.flatMap_nil, List.filter_nil, List.filter_cons, List.mem_cons, List.not_mem_nil, or_false, false_or, or_true, true_or, decide_not, ne_eq, not_true_eq_false, not_false_eq_true, Option.isSome_some, Option.getD_some, Option.getD_none, beq_self_eq_true, firstRegion, gc, keptBoxes, keptRows, dedup, nodupB, idx, renameB, AV.boxes, AV.boxess, AV.rows, AV.rowss, AV.mapO, AV.mapOs, plan_9_13, ifEv_bool, gate_bool, gateQ_bool, pick_bool, SN, evCutRow, Bool.true_or, Bool.false_or, Bool.or_true, Bool.or_false, Int.reduceToNat, id_eq, Int.toNat_natCast, Int.natCast_nonneg, List.getElem?_map, List.length_map, Int.lt_irrefl, Int.toNat_zero, Int.reduceBEq, Int.reduceLE, Int.reduceLT, SS, List.length_cons, List.length_nil, List.getElem?_cons_zero, List.getElem?_cons_succ, Option.bind_some, Option.map_some, beq_true, beq_false, decide_eq_true_eq, Bool.not_eq_true', decide_eq_false_iff_not, List.map_cons, List.map_nil, List.append_nil, Bool.true_and, Bool.false_and, Bool.and_true, Bool.and_false, decide_true, decide_false, Bool.false_eq_true, Bool.not_true, Bool.not_false, List.all_cons, List.all_nil, List.drop_zero, List.drop_succ_cons, List.drop_nil, List.take_succ_cons, List.take_zero, List.take_nil, List.head?_cons, List.cons_append, List.nil_append, Nat.le_refl, Nat.zero_le, List.length_take, List.length_drop, and_self, and_true, true_and, Nat.zero_add, Nat.add_zero, TIS, wanted, numbered, plainC, plainS, evEq, eqK, evBox, evAlloc, evStore, evLoad, evFieldAddr, behind, takeVal, AV.cells, AV.isCell, ofCells, ofCell, Value.cells, Nat.reduceAdd, Nat.reduceEqDiff, Nat.reduceLT, Nat.reduceLeDiff, Nat.reduceMul, Nat.reduceSub, reduceIte])))
end
open Go.ChangeShapes Go.WideShapes Go.ChangeAt Go.RowKit Flat
theorem own : ownKnob Try.prog.godebug = none := by kernel_rfl
theorem laidOut : laidOutB Try.prog = true := by kernel_rfl
set_option maxRecDepth 100000 in
theorem lifted (os : Os) (started : os.Started) (H : Type) (enc : TypeId × Value → H) :
    ReturnsInHanded {} Try.checked os 9 .any (Rows.fnExactAnswerOfSpec.pre6 enc Try.prog Try.f9 Rows.fnExactAnswerOfRow.domain false) (Rows.fnExactAnswerOfSpec.post enc Try.prog Try.f9 false true false false) := by
  refine returnsInHanded_of_change_sized (C := Try.checked) own started (by kernel_rfl) Try.func9
    (ChangeSpec.witness6 (enc := enc) (C := Try.checked) false ⟨#[], #[.agg #[.int .i64 0, .slice none 0 0, .int .i64 0], .slice none 0 0], []⟩ 8 (by kernel_rfl) (by kernel_rfl) (by kernel_rfl) (by kernel_rfl)) ?_
  intro W base args ds gs before hval0 hW hcnd hsz0 _
  have hsz : (DataW.weightsEach Try.prog (Try.f9.params.toList ++ Rows.fnExactAnswerOfSpec.plain.varTypes Try.prog) (ds ++ gs)).all (· ≤ reachBytes) = true := hsz0
  have hval : ∀ (j : Nat) t v, Try.f9.params[j]? = some t → args[j]? = some v → Value.okWide Try.prog W .any base t v := hval0
  have hW' := hW
  obtain ⟨p, q, hA0, hV, rfl, hfz, hnd⟩ := hW
  have hA : DataW.TrodAll enc Try.prog W 0 (fun _ => true) true Try.f9.params.toList args.toList ds p := hA0
  rw [Try.params9] at hA hval hsz
  obtain ⟨v0, vs0, d0, ds0, p0, q0, hargs, rfl, rfl, h0, r0⟩ := trodAll_cons hA
  obtain ⟨v1, vs1, d1, ds1, p1, q1, rfl, rfl, rfl, h1, r1⟩ := trodAll_cons r0
  obtain ⟨rfl, rfl, rfl⟩ := trodAll_nil r1
  obtain rfl : args = #[v0, v1] := by cases args; simp_all
  obtain ⟨rfl, rfl⟩ := trodVars_none hV
  have lt0 : ∀ x ∈ p0, x.block < W.heap.size := by obtain ⟨m, hm⟩ := h0; exact DataW.trod_lt m _ _ _ hm
  obtain ⟨n0, a0, ty0, ro0⟩ := handed (P := Try.prog) (ts := [24, 3, 22, 124]) (by kernel_rfl) (by kernel_rfl) (hval 0 24 v0 rfl rfl) h0 (weights_each hsz 0 24 d0 rfl rfl)
  obtain ⟨x0, rfl, fit0⟩ := shape_24 n0 a0 ty0
  have lt1 : ∀ x ∈ p1, x.block < W.heap.size := by obtain ⟨m, hm⟩ := h1; exact DataW.trod_lt m _ _ _ hm
  obtain ⟨n1, a1, ty1, ro1⟩ := handed (P := Try.prog) (ts := [71, 4]) (by kernel_rfl) (by kernel_rfl) (hval 1 71 v1 rfl rfl) h1 (weights_each hsz 1 71 d1 rfl rfl)
  obtain ⟨x1, rfl, fit1⟩ := shape_71 n1 a1 ty1
  refine (law_ok mixed sound hkill hmd (ext := noExt) (fun f g hg => by simp [noExt] at hg) (reckoned x0 x1 fit0 fit1 _ (Nat.le_refl _)) (args := #[v0, v1]) (W := W) rfl (fun j hj => by
    rcases j with _ | _ | j
    · exact ro0
    · exact ro1
    · simp at hj; omega)).mono fun e W' ⟨he, bel⟩ => ?_
  subst he
  exact ⟨_, rfl, _, _, _, [], _, [], hW', trodAll_mk1 (shut_bool Try.underlying4 _), (trodAll_cons_mk (Below.trod laidOut (by kernel_rfl) (of_decide_eq_true (by kernel_rfl)) h0 bel lt0) (trodAll_cons_mk (Below.trod laidOut (by kernel_rfl) (of_decide_eq_true (by kernel_rfl)) h1 bel lt1) trodAll_mk0)), rfl, bel.frame _, fun h => by cases h⟩
theorem over : Rows.fnExactAnswerOfRow.holds Try.pinned (OpenSpec.ofChange Rows.fnExactAnswerOfSpec) :=
  OpenClaim.holds_of_wide 9 Try.f9 rfl rfl rfl rfl rfl rfl rfl ⟨rfl, rfl, rfl, rfl, rfl⟩ rfl rfl rfl rfl rfl (by kernel_rfl) Try.func9 (by kernel_rfl)
    (of_decide_eq_true (by kernel_rfl)) (by unfold Func.isWrapper; first | (rw [if_pos (by decide +kernel)]; kernel_rfl) | (rw [if_neg (by decide +kernel)]; exact ⟨rfl, rfl⟩))
    (fun os started H enc _ => lifted os started H enc)
theorem proved : Rows.FnExactAnswerOfSaid := over
#print axioms proved
end Go.Proofs.Ytogjbacgkcodmaa.fnExactAnswerOf
namespace Go.Proofs.Ytogjbacgkcodmaa
/-- The row, under a short name, for the claim. -/
theorem fnExactAnswerOf_holds : Rows.FnExactAnswerOfSaid := fnExactAnswerOf.proved
end Go.Proofs.Ytogjbacgkcodmaa
