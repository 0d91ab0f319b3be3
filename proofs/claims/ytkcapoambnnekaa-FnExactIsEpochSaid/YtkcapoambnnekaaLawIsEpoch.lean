/-
The law of IsEpoch: it answers true, whatever it is handed.
-/
import Derived.Test.YtkcapoambnnekaaRows
import Derived.Test.YtkcapoambnnekaaEqS
import Derived.Test.YtkcapoambnnekaaEqZ
import Derived.Test.YtkcapoambnnekaaEqT
import Derived.Test.YtkcapoambnnekaaEqQ
import Derived.Test.YtkcapoambnnekaaEqIE
import Derived.WalkKit
import Derived.ProofKit
import Derived.OpenShut
import Derived.ShutString
import Derived.ChangeOld
import Derived.Below
import Derived.SizedLaws
import Derived.Carry
set_option linter.unusedVariables false
set_option linter.unusedSimpArgs false
set_option maxRecDepth 10000
namespace Go.Proofs.Ytkcapoambnnekaa.fnExactIsEpoch
section
open Flat
theorem reckoned (x0 : Epoch) (h0 : x0.fits) (k : Nat) (hk : 1152921504606846976 + 4 * ((x0.w)) + 60 ≤ k) : run E noExt k 12 [x0.enc false] [] = some (.bool true, []) := by
  by_cases b0 : (((x0.w) : Nat) : Int) ≤ 1048576
  ·
    have s0 := r_laws_szEpoch (fl := false) (k - 1) x0 (by omega) h0 1048576 (by omega) (by omega)
    have z0 : left 1048576 (x0.w) = 1048576 - (((x0.w) : Nat) : Int) := (left_le (by omega)).trans (by omega)
    have d0 : decide ((1048576 : Int) - (((x0.w) : Nat) : Int) < 0) = false := decide_eq_false (by omega)
    rw [z0] at s0
    have t0 := r_laws_toEpoch (fl := false) (k - 1) (by omega) x0 (by omega)
    have e0 := r_laws_eqEpoch (fl := true) (gl := true) (k - 1) (by omega) x0 x0 (by omega)
    have f0 := r_spec_IsEpoch (fl := true) (k - 1) (by omega) x0 (by omega)
    have f1 := r_impl_IsEpoch (fl := true) (k - 1) (by omega) x0 (by omega)
    obtain ⟨k, rfl⟩ : ∃ j, k = j + 1 := ⟨k - 1, by omega⟩
    rw [run_succ rfl rfl, body_eq (nt := 27) (fn := Go.Proofs.Try.f12) (by kernel_rfl) rfl rfl rfl rfl rfl rfl rfl rfl]
    simp -implicitDefEqProofs only [Nat.add_sub_cancel, decide_true, Epoch.encO, enc_Epoch, enc_Policy] at s0 t0 e0 f0 f1
    simp -implicitDefEqProofs only [Go.Proofs.Try.f12, Epoch.encO, enc_Epoch, enc_Policy, s0, t0, e0, f0, f1, d0, bne, SO, SH, frzO, frzE, AV.laid, AV.treeV, AV.treeC, St.laid, spent, AV.subs, AV.shut, AV.scal, AV.scals, evBuildSlice, elemsOf, zeroOK, evAppend, rowOf, List.size_toArray, Bool.or_false, Bool.false_or, Bool.or_self, List.any_cons, List.any_nil, List.headD_cons, noref, isRef, small, import_, AV.any, AV.anys, isPtr, finV, rename, noPtr, isBad, AV.isUndef, St.setRow, AV.shutV, rebuild, isAggV, evBuild, fillCells, evCutOwn, List.mem_cons, List.not_mem_nil, or_false, false_or, or_true, true_or, dedup, nodupB, idx, AV.rows, AV.rowss, AV.mapO, AV.mapOs, List.range_zero, List.range_succ, List.flatMap_cons, List.flatMap_nil, List.filter_nil, List.filter_cons, List.mem_cons, List.not_mem_nil, or_false, false_or, or_true, true_or, decide_not, ne_eq, not_true_eq_false, not_false_eq_true, Option.isSome_some, Option.getD_some, Option.getD_none, beq_self_eq_true, firstRegion, gc, keptBoxes, keptRows, dedup, nodupB, idx, renameB, AV.boxes, AV.boxess, AV.rows, AV.rowss, AV.mapO, AV.mapOs, plan_12_10, ifEv_bool, gate_bool, gateP_bool, gateQ_bool, pick_bool, SN, evCutRow, Bool.true_or, Bool.false_or, Bool.or_true, Bool.or_false, Int.reduceToNat, id_eq, Int.toNat_natCast, Int.natCast_nonneg, List.getElem?_map, List.length_map, Int.lt_irrefl, Int.toNat_zero, Int.reduceBEq, Int.reduceLE, Int.reduceLT, SS, List.length_cons, List.length_nil, List.getElem?_cons_zero, List.getElem?_cons_succ, Option.bind_some, Option.map_some, beq_true, beq_false, decide_eq_true_eq, Bool.not_eq_true', decide_eq_false_iff_not, List.map_cons, List.map_nil, List.append_nil, Bool.true_and, Bool.false_and, Bool.and_true, Bool.and_false, decide_true, decide_false, Bool.false_eq_true, Bool.not_true, Bool.not_false, List.all_cons, List.all_nil, List.drop_zero, List.drop_succ_cons, List.drop_nil, List.take_succ_cons, List.take_zero, List.take_nil, List.head?_cons, List.cons_append, List.nil_append, Nat.le_refl, Nat.zero_le, List.length_take, List.length_drop, and_self, and_true, true_and, Nat.zero_add, Nat.add_zero, TIS, MDS, evCall_ro, callRoQ_ro, finish_nil, finish_four, finW_bool, finW_int, finW_str, finW_agg, finW_own, finW_sl, finW_nils, finW_tup, wanted, numbered, plainC, plainS, evEq, eqK, evBox, evAlloc, evStore, evLoad, evFieldAddr, behind, takeVal, AV.cells, AV.isCell, ofCells, ofCell, Value.cells, Nat.reduceAdd, Nat.reduceEqDiff, Nat.reduceLT, Nat.reduceLeDiff, Nat.reduceMul, Nat.reduceSub, reduceIte]
    repeat' (split <;> (rename_i h; (try simp -implicitDefEqProofs only [Bool.not_eq_true', Bool.not_eq_false', decide_eq_true_eq, decide_eq_false_iff_not] at h); (try simp -implicitDefEqProofs only [*, Epoch.encO, enc_Epoch, enc_Policy, s0, t0, e0, f0, f1, d0, bne, SO, SH, frzO, frzE, AV.laid, AV.treeV, AV.treeC, St.laid, spent, AV.subs, AV.shut, AV.scal, AV.scals, evBuildSlice, elemsOf, zeroOK, evAppend, rowOf, List.size_toArray, Bool.or_false, Bool.false_or, Bool.or_self, List.any_cons, List.any_nil, List.headD_cons, noref, isRef, small, import_, AV.any, AV.anys, isPtr, finV, rename, noPtr, isBad, AV.isUndef, St.setRow, AV.shutV, rebuild, isAggV, evBuild, fillCells, evCutOwn, List.mem_cons, List.not_mem_nil, or_false, false_or, or_true, true_or, dedup, nodupB, idx, AV.rows, AV.rowss, AV.mapO, AV.mapOs, List.range_zero, List.range_succ, List.flatMap_cons, List.flatMap_nil, List.filter_nil, List.filter_cons, List.mem_cons, List.not_mem_nil, or_false, false_or, or_true, true_or, decide_not, ne_eq, not_true_eq_false, not_false_eq_true, Option.isSome_some, Option.getD_some, Option.getD_none, beq_self_eq_true, firstRegion, gc, keptBoxes, keptRows, dedup, nodupB, idx, renameB, AV.boxes, AV.boxess, AV.rows, AV.rowss, AV.mapO, AV.mapOs, plan_12_10, ifEv_bool, gate_bool, gateP_bool, gateQ_bool, pick_bool, SN, evCutRow, Bool.true_or, Bool.false_or, Bool.or_true, Bool.or_false, Int.reduceToNat, id_eq, Int.toNat_natCast, Int.natCast_nonneg, List.getElem?_map, List.length_map, Int.lt_irrefl, Int.toNat_zero, Int.reduceBEq, Int.reduceLE, Int.reduceLT, SS, List.length_cons, List.length_nil, List.getElem?_cons_zero, List.getElem?_cons_succ, Option.bind_some, Option.map_some, beq_true, beq_false, decide_eq_true_eq, Bool.not_eq_true', decide_eq_false_iff_not, List.map_cons, List.map_nil, List.append_nil, Bool.true_and, Bool.false_and, Bool.and_true, Bool.and_false, decide_true, decide_false, Bool.false_eq_true, Bool.not_true, Bool.not_false, List.all_cons, List.all_nil, List.drop_zero, List.drop_succ_cons, List.drop_nil, List.take_succ_cons, List.take_zero, List.take_nil, List.head?_cons, List.cons_append, List.nil_append, Nat.le_refl, Nat.zero_le, List.length_take, List.length_drop, and_self, and_true, true_and, Nat.zero_add, Nat.add_zero, TIS, MDS, evCall_ro, callRoQ_ro, finish_nil, finish_four, finW_bool, finW_int, finW_str, finW_agg, finW_own, finW_sl, finW_nils, finW_tup, wanted, numbered, plainC, plainS, evEq, eqK, evBox, evAlloc, evStore, evLoad, evFieldAddr, behind, takeVal, AV.cells, AV.isCell, ofCells, ofCell, Value.cells, Nat.reduceAdd, Nat.reduceEqDiff, Nat.reduceLT, Nat.reduceLeDiff, Nat.reduceMul, Nat.reduceSub, reduceIte])))
  ·
    have s0 := r_laws_szEpoch (fl := false) (k - 1) x0 (by omega) h0 1048576 (by omega) (by omega)
    have z0 : left 1048576 (x0.w) = -1 := left_gt (by omega)
    rw [z0] at s0
    obtain ⟨k, rfl⟩ : ∃ j, k = j + 1 := ⟨k - 1, by omega⟩
    rw [run_succ rfl rfl, body_eq (nt := 27) (fn := Go.Proofs.Try.f12) (by kernel_rfl) rfl rfl rfl rfl rfl rfl rfl rfl]
    simp -implicitDefEqProofs only [Nat.add_sub_cancel, decide_true, Epoch.encO, enc_Epoch, enc_Policy] at s0
    simp -implicitDefEqProofs only [Go.Proofs.Try.f12, Epoch.encO, enc_Epoch, enc_Policy, s0, bne, SO, SH, frzO, frzE, AV.laid, AV.treeV, AV.treeC, St.laid, spent, AV.subs, AV.shut, AV.scal, AV.scals, evBuildSlice, elemsOf, zeroOK, evAppend, rowOf, List.size_toArray, Bool.or_false, Bool.false_or, Bool.or_self, List.any_cons, List.any_nil, List.headD_cons, noref, isRef, small, import_, AV.any, AV.anys, isPtr, finV, rename, noPtr, isBad, AV.isUndef, St.setRow, AV.shutV, rebuild, isAggV, evBuild, fillCells, evCutOwn, List.mem_cons, List.not_mem_nil, or_false, false_or, or_true, true_or, dedup, nodupB, idx, AV.rows, AV.rowss, AV.mapO, AV.mapOs, List.range_zero, List.range_succ, List.flatMap_cons, List.flatMap_nil, List.filter_nil, List.filter_cons, List.mem_cons, List.not_mem_nil, or_false, false_or, or_true, true_or, decide_not, ne_eq, not_true_eq_false, not_false_eq_true, Option.isSome_some, Option.getD_some, Option.getD_none, beq_self_eq_true, firstRegion, gc, keptBoxes, keptRows, dedup, nodupB, idx, renameB, AV.boxes, AV.boxess, AV.rows, AV.rowss, AV.mapO, AV.mapOs, plan_12_10, ifEv_bool, gate_bool, gateP_bool, gateQ_bool, pick_bool, SN, evCutRow, Bool.true_or, Bool.false_or, Bool.or_true, Bool.or_false, Int.reduceToNat, id_eq, Int.toNat_natCast, Int.natCast_nonneg, List.getElem?_map, List.length_map, Int.lt_irrefl, Int.toNat_zero, Int.reduceBEq, Int.reduceLE, Int.reduceLT, SS, List.length_cons, List.length_nil, List.getElem?_cons_zero, List.getElem?_cons_succ, Option.bind_some, Option.map_some, beq_true, beq_false, decide_eq_true_eq, Bool.not_eq_true', decide_eq_false_iff_not, List.map_cons, List.map_nil, List.append_nil, Bool.true_and, Bool.false_and, Bool.and_true, Bool.and_false, decide_true, decide_false, Bool.false_eq_true, Bool.not_true, Bool.not_false, List.all_cons, List.all_nil, List.drop_zero, List.drop_succ_cons, List.drop_nil, List.take_succ_cons, List.take_zero, List.take_nil, List.head?_cons, List.cons_append, List.nil_append, Nat.le_refl, Nat.zero_le, List.length_take, List.length_drop, and_self, and_true, true_and, Nat.zero_add, Nat.add_zero, TIS, MDS, evCall_ro, callRoQ_ro, finish_nil, finish_four, finW_bool, finW_int, finW_str, finW_agg, finW_own, finW_sl, finW_nils, finW_tup, wanted, numbered, plainC, plainS, evEq, eqK, evBox, evAlloc, evStore, evLoad, evFieldAddr, behind, takeVal, AV.cells, AV.isCell, ofCells, ofCell, Value.cells, Nat.reduceAdd, Nat.reduceEqDiff, Nat.reduceLT, Nat.reduceLeDiff, Nat.reduceMul, Nat.reduceSub, reduceIte]
    repeat' (split <;> (rename_i h; (try simp -implicitDefEqProofs only [Bool.not_eq_true', Bool.not_eq_false', decide_eq_true_eq, decide_eq_false_iff_not] at h); (try simp -implicitDefEqProofs only [*, Epoch.encO, enc_Epoch, enc_Policy, s0, bne, SO, SH, frzO, frzE, AV.laid, AV.treeV, AV.treeC, St.laid, spent, AV.subs, AV.shut, AV.scal, AV.scals, evBuildSlice, elemsOf, zeroOK, evAppend, rowOf, List.size_toArray, Bool.or_false, Bool.false_or, Bool.or_self, List.any_cons, List.any_nil, List.headD_cons, noref, isRef, small, import_, AV.any, AV.anys, isPtr, finV, rename, noPtr, isBad, AV.isUndef, St.setRow, AV.shutV, rebuild, isAggV, evBuild, fillCells, evCutOwn, List.mem_cons, List.not_mem_nil, or_false, false_or, or_true, true_or, dedup, nodupB, idx, AV.rows, AV.rowss, AV.mapO, AV.mapOs, List.range_zero, List.range_succ, List.flatMap_cons, List.flatMap_nil, List.filter_nil, List.filter_cons, List.mem_cons, List.not_mem_nil, or_false, false_or, or_true, true_or, decide_not, ne_eq, not_true_eq_false, not_false_eq_true, Option.isSome_some, Option.getD_some, Option.getD_none, beq_self_eq_true, firstRegion, gc, keptBoxes, keptRows, dedup, nodupB, idx, renameB, AV.boxes, AV.boxess, AV.rows, AV.rowss, AV.mapO, AV.mapOs, plan_12_10, ifEv_bool, gate_bool, gateP_bool, gateQ_bool, pick_bool, SN, evCutRow, Bool.true_or, Bool.false_or, Bool.or_true, Bool.or_false, Int.reduceToNat, id_eq, Int.toNat_natCast, Int.natCast_nonneg, List.getElem?_map, List.length_map, Int.lt_irrefl, Int.toNat_zero, Int.reduceBEq, Int.reduceLE, Int.reduceLT, SS, List.length_cons, List.length_nil, List.getElem?_cons_zero, List.getElem?_cons_succ, Option.bind_some, Option.map_some, beq_true, beq_false, decide_eq_true_eq, Bool.not_eq_true', decide_eq_false_iff_not, List.map_cons, List.map_nil, List.append_nil, Bool.true_and, Bool.false_and, Bool.and_true, Bool.and_false, decide_true, decide_false, Bool.false_eq_true, Bool.not_true, Bool.not_false, List.all_cons, List.all_nil, List.drop_zero, List.drop_succ_cons, List.drop_nil, List.take_succ_cons, List.take_zero, List.take_nil, List.head?_cons, List.cons_append, List.nil_append, Nat.le_refl, Nat.zero_le, List.length_take, List.length_drop, and_self, and_true, true_and, Nat.zero_add, Nat.add_zero, TIS, MDS, evCall_ro, callRoQ_ro, finish_nil, finish_four, finW_bool, finW_int, finW_str, finW_agg, finW_own, finW_sl, finW_nils, finW_tup, wanted, numbered, plainC, plainS, evEq, eqK, evBox, evAlloc, evStore, evLoad, evFieldAddr, behind, takeVal, AV.cells, AV.isCell, ofCells, ofCell, Value.cells, Nat.reduceAdd, Nat.reduceEqDiff, Nat.reduceLT, Nat.reduceLeDiff, Nat.reduceMul, Nat.reduceSub, reduceIte])))
end
open Go.ChangeShapes Go.WideShapes Go.ChangeAt Go.RowKit Flat
theorem own : ownKnob Try.prog.godebug = none := by kernel_rfl
theorem laidOut : laidOutB Try.prog = true := by kernel_rfl
set_option maxRecDepth 100000 in
theorem lifted (os : Os) (started : os.Started) (H : Type) (enc : TypeId × Value → H) :
    ReturnsInHanded {} Try.checked os 12 .any (Rows.fnExactIsEpochSpec.pre6 enc Try.prog Try.f12 Rows.fnExactIsEpochRow.domain false) (Rows.fnExactIsEpochSpec.post enc Try.prog Try.f12 false true false false) := by
  refine returnsInHanded_of_change_sized (C := Try.checked) own started (by kernel_rfl) Try.func12
    (ChangeSpec.witness6 (enc := enc) (C := Try.checked) false ⟨#[], #[.agg #[.int .i64 0, .int .i64 0, .slice none 0 0, .int .i64 0, .slice none 0 0]], []⟩ 8 (by kernel_rfl) (by kernel_rfl) (by kernel_rfl) (by kernel_rfl)) ?_
  intro W base args ds gs before hval0 hW hcnd hsz0 _
  have hsz : (DataW.weightsEach Try.prog (Try.f12.params.toList ++ Rows.fnExactIsEpochSpec.plain.varTypes Try.prog) (ds ++ gs)).all (· ≤ reachBytes) = true := hsz0
  have hval : ∀ (j : Nat) t v, Try.f12.params[j]? = some t → args[j]? = some v → Value.okWide Try.prog W .any base t v := hval0
  have hW' := hW
  obtain ⟨p, q, hA0, hV, rfl, hfz, hnd⟩ := hW
  have hA : DataW.TrodAll enc Try.prog W 0 (fun _ => true) true Try.f12.params.toList args.toList ds p := hA0
  rw [Try.params12] at hA hval hsz
  obtain ⟨v0, vs0, d0, ds0, p0, q0, hargs, rfl, rfl, h0, r0⟩ := trodAll_cons hA
  obtain ⟨rfl, rfl, rfl⟩ := trodAll_nil r0
  obtain rfl : args = #[v0] := by cases args; simp_all
  obtain ⟨rfl, rfl⟩ := trodVars_none hV
  have lt0 : ∀ x ∈ p0, x.block < W.heap.size := by obtain ⟨m, hm⟩ := h0; exact DataW.trod_lt m _ _ _ hm
  obtain ⟨n0, a0, ty0, ro0⟩ := handed (P := Try.prog) (ts := [63, 3, 61, 111, 24, 22, 36, 34, 32]) (by kernel_rfl) (by kernel_rfl) (hval 0 63 v0 rfl rfl) h0 (weights_each hsz 0 63 d0 rfl rfl)
  obtain ⟨x0, rfl, fit0⟩ := shape_63 n0 a0 ty0
  refine (law_ok mixed sound (ext := noExt) (fun f g hg => by simp [noExt] at hg) (reckoned x0 fit0 _ (Nat.le_refl _)) (args := #[v0]) (W := W) rfl (fun j hj => by
    rcases j with _ | j
    · exact ro0
    · simp at hj)).mono fun e W' ⟨he, bel⟩ => ?_
  subst he
  exact ⟨_, rfl, _, _, _, [], _, [], hW', trodAll_mk1 (shut_bool Try.underlying4 _), (trodAll_cons_mk (Below.trod laidOut (by kernel_rfl) (of_decide_eq_true (by kernel_rfl)) h0 bel lt0) trodAll_mk0), rfl, bel.frame _, fun h => by cases h⟩
theorem over : Rows.fnExactIsEpochRow.holds Try.pinned (OpenSpec.ofChange Rows.fnExactIsEpochSpec) :=
  OpenClaim.holds_of_wide 12 Try.f12 rfl rfl rfl rfl rfl rfl rfl ⟨rfl, rfl, rfl, rfl, rfl⟩ rfl rfl rfl rfl rfl (by kernel_rfl) Try.func12 (by kernel_rfl)
    (of_decide_eq_true (by kernel_rfl)) (by unfold Func.isWrapper; first | (rw [if_pos (by decide +kernel)]; kernel_rfl) | (rw [if_neg (by decide +kernel)]; exact ⟨rfl, rfl⟩))
    (fun os started H enc _ => lifted os started H enc)
theorem proved : Rows.FnExactIsEpochSaid := over
#print axioms proved
end Go.Proofs.Ytkcapoambnnekaa.fnExactIsEpoch
namespace Go.Proofs.Ytkcapoambnnekaa
/-- The row, under a short name, for the claim. -/
theorem fnExactIsEpoch_holds : Rows.FnExactIsEpochSaid := fnExactIsEpoch.proved
end Go.Proofs.Ytkcapoambnnekaa
