/-
The law of IsSafer: it answers true, whatever it is handed.
-/
import Derived.Test.YtbajieiodabdgaaRows
import Derived.Test.YtbajieiodabdgaaEqS
import Derived.Test.YtbajieiodabdgaaEqZ
import Derived.Test.YtbajieiodabdgaaEqT
import Derived.Test.YtbajieiodabdgaaEqQ
import Derived.Test.YtbajieiodabdgaaEqIW
import Derived.WalkKit
import Derived.ProofKit
import Derived.OpenShut
import Derived.ShutString
import Derived.ChangeOld
import Derived.Below
import Derived.SizedLaws
import Derived.Carry
set_option linter.unusedVariables false
set_option linter.unusedSimpArgs false
set_option maxRecDepth 10000
namespace Go.Proofs.Ytbajieiodabdgaa.fnExactIsSafer
section
open Flat
theorem reckoned (x0 : Policy) (x1 : Policy) (x2 : Int) (x3 : Int) (h0 : x0.fits) (h1 : x1.fits) (k : Nat) (hk : 1152921504606846976 + 4 * ((x0.w) + (x1.w)) + 60 ≤ k) : run E noExt k 9 [x0.enc false, x1.enc false, .int .i64 x2, .int .i64 x3] [] = some (.bool true, []) := by
  by_cases b0 : (((x0.w) : Nat) : Int) ≤ 1048576
  ·
    by_cases b1 : (((x0.w) + (x1.w) : Nat) : Int) ≤ 1048576
    ·
      have s0 := r_laws_szPolicy (fl := false) (k - 1) x0 (by omega) h0 1048576 (by omega) (by omega)
      have z0 : left 1048576 (x0.w) = 1048576 - (((x0.w) : Nat) : Int) := (left_le (by omega)).trans (by omega)
      have d0 : decide ((1048576 : Int) - (((x0.w) : Nat) : Int) < 0) = false := decide_eq_false (by omega)
      rw [z0] at s0
      have s1 := r_laws_szPolicy (fl := false) (k - 1) x1 (by omega) h1 (1048576 - (((x0.w) : Nat) : Int)) (by omega) (by omega)
      have z1 : left (1048576 - (((x0.w) : Nat) : Int)) (x1.w) = 1048576 - (((x0.w) + (x1.w) : Nat) : Int) := (left_le (by omega)).trans (by omega)
      have d1 : decide ((1048576 : Int) - (((x0.w) + (x1.w) : Nat) : Int) < 0) = false := decide_eq_false (by omega)
      rw [z1] at s1
      have t0 := r_laws_toPolicy (fl := false) (k - 1) (by omega) x0 (by omega)
      have t1 := r_laws_toPolicy (fl := false) (k - 1) (by omega) x1 (by omega)
      have e0 := r_laws_eqPolicy (fl := true) (gl := true) (k - 1) (by omega) x0 x0 (by omega)
      have e1 := r_laws_eqPolicy (fl := true) (gl := true) (k - 1) (by omega) x1 x1 (by omega)
      have f0 := r_spec_IsSafer (k - 1) (by omega) x0 x1 (by omega) (by omega) x2 x3
      have f1 := r_impl_IsSafer (k - 1) (by omega) x0 x1 (by omega) (by omega) x2 x3
      obtain ⟨k, rfl⟩ : ∃ j, k = j + 1 := ⟨k - 1, by omega⟩
      rw [run_succ rfl rfl, body_eq (nt := 53) (fn := Go.Proofs.Try.f9) (by kernel_rfl) rfl rfl rfl rfl rfl rfl rfl rfl]
      simp -implicitDefEqProofs only [Nat.add_sub_cancel, decide_true, Policy.encT, enc_Policy] at s0 s1 t0 t1 e0 e1 f0 f1
      simp -implicitDefEqProofs only [QS, QN, QG, QO, Go.Proofs.Try.f9, Policy.encT, enc_Policy, s0, s1, t0, t1, e0, e1, f0, f1, d0, d1, bne, SO, SH, frzO, frzE, AV.laid, AV.treeV, AV.treeC, St.laid, spent, AV.subs, AV.shut, AV.scal, AV.scals, evBuildSlice, elemsOf, zeroOK, evAppend, rowOf, noref, isRef, small, import_, AV.any, AV.anys, isPtr, finV, rename, noPtr, isBad, AV.isUndef, St.setRow, AV.shutV, rebuild, isAggV, evBuild, fillCells, evCutOwn, dedup, nodupB, idx, AV.rows, AV.rowss, AV.mapO, AV.mapOs, firstRegion, gc, keptBoxes, keptRows, renameB, AV.boxes, AV.boxess, plan_9_8, plan_9_14, plan_9_16, ifEv_bool, gate_bool, gateP_bool, gateQ_bool, pick_bool, SN, evCutRow, Int.reduceToNat, id_eq, Int.reduceBEq, Int.reduceLE, Int.reduceLT, SS, one_ne2, num_ne2, TIS, MDS, wanted, numbered, plainC, plainS, evEq, eqK, evBox, evAlloc, evStore, evLoad, evFieldAddr, behind, takeVal, AV.cells, AV.isCell, ofCells, ofCell, Value.cells, Nat.reduceAdd, Nat.reduceEqDiff, Nat.reduceLT, Nat.reduceLeDiff, Nat.reduceMul, Nat.reduceSub, reduceIte]
      repeat' (split <;> (rename_i h; (try simp -implicitDefEqProofs only [Bool.not_eq_true', Bool.not_eq_false', decide_eq_true_eq, decide_eq_false_iff_not] at h); (try simp -implicitDefEqProofs only [QS, QN, QG, QO, *, Policy.encT, enc_Policy, s0, s1, t0, t1, e0, e1, f0, f1, d0, d1, bne, SO, SH, frzO, frzE, AV.laid, AV.treeV, AV.treeC, St.laid, spent, AV.subs, AV.shut, AV.scal, AV.scals, evBuildSlice, elemsOf, zeroOK, evAppend, rowOf, noref, isRef, small, import_, AV.any, AV.anys, isPtr, finV, rename, noPtr, isBad, AV.isUndef, St.setRow, AV.shutV, rebuild, isAggV, evBuild, fillCells, evCutOwn, dedup, nodupB, idx, AV.rows, AV.rowss, AV.mapO, AV.mapOs, firstRegion, gc, keptBoxes, keptRows, renameB, AV.boxes, AV.boxess, plan_9_8, plan_9_14, plan_9_16, ifEv_bool, gate_bool, gateP_bool, gateQ_bool, pick_bool, SN, evCutRow, Int.reduceToNat, id_eq, Int.reduceBEq, Int.reduceLE, Int.reduceLT, SS, one_ne2, num_ne2, TIS, MDS, wanted, numbered, plainC, plainS, evEq, eqK, evBox, evAlloc, evStore, evLoad, evFieldAddr, behind, takeVal, AV.cells, AV.isCell, ofCells, ofCell, Value.cells, Nat.reduceAdd, Nat.reduceEqDiff, Nat.reduceLT, Nat.reduceLeDiff, Nat.reduceMul, Nat.reduceSub, reduceIte])))
    ·
      have s0 := r_laws_szPolicy (fl := false) (k - 1) x0 (by omega) h0 1048576 (by omega) (by omega)
      have z0 : left 1048576 (x0.w) = 1048576 - (((x0.w) : Nat) : Int) := (left_le (by omega)).trans (by omega)
      have d0 : decide ((1048576 : Int) - (((x0.w) : Nat) : Int) < 0) = false := decide_eq_false (by omega)
      rw [z0] at s0
      have s1 := r_laws_szPolicy (fl := false) (k - 1) x1 (by omega) h1 (1048576 - (((x0.w) : Nat) : Int)) (by omega) (by omega)
      have z1 : left (1048576 - (((x0.w) : Nat) : Int)) (x1.w) = -1 := left_gt (by omega)
      rw [z1] at s1
      obtain ⟨k, rfl⟩ : ∃ j, k = j + 1 := ⟨k - 1, by omega⟩
      rw [run_succ rfl rfl, body_eq (nt := 53) (fn := Go.Proofs.Try.f9) (by kernel_rfl) rfl rfl rfl rfl rfl rfl rfl rfl]
      simp -implicitDefEqProofs only [Nat.add_sub_cancel, decide_true, Policy.encT, enc_Policy] at s0 s1
      simp -implicitDefEqProofs only [QS, QN, QG, QO, Go.Proofs.Try.f9, Policy.encT, enc_Policy, s0, s1, d0, bne, SO, SH, frzO, frzE, AV.laid, AV.treeV, AV.treeC, St.laid, spent, AV.subs, AV.shut, AV.scal, AV.scals, evBuildSlice, elemsOf, zeroOK, evAppend, rowOf, noref, isRef, small, import_, AV.any, AV.anys, isPtr, finV, rename, noPtr, isBad, AV.isUndef, St.setRow, AV.shutV, rebuild, isAggV, evBuild, fillCells, evCutOwn, dedup, nodupB, idx, AV.rows, AV.rowss, AV.mapO, AV.mapOs, firstRegion, gc, keptBoxes, keptRows, renameB, AV.boxes, AV.boxess, plan_9_8, plan_9_14, plan_9_16, ifEv_bool, gate_bool, gateP_bool, gateQ_bool, pick_bool, SN, evCutRow, Int.reduceToNat, id_eq, Int.reduceBEq, Int.reduceLE, Int.reduceLT, SS, one_ne2, num_ne2, TIS, MDS, wanted, numbered, plainC, plainS, evEq, eqK, evBox, evAlloc, evStore, evLoad, evFieldAddr, behind, takeVal, AV.cells, AV.isCell, ofCells, ofCell, Value.cells, Nat.reduceAdd, Nat.reduceEqDiff, Nat.reduceLT, Nat.reduceLeDiff, Nat.reduceMul, Nat.reduceSub, reduceIte]
      repeat' (split <;> (rename_i h; (try simp -implicitDefEqProofs only [Bool.not_eq_true', Bool.not_eq_false', decide_eq_true_eq, decide_eq_false_iff_not] at h); (try simp -implicitDefEqProofs only [QS, QN, QG, QO, *, Policy.encT, enc_Policy, s0, s1, d0, bne, SO, SH, frzO, frzE, AV.laid, AV.treeV, AV.treeC, St.laid, spent, AV.subs, AV.shut, AV.scal, AV.scals, evBuildSlice, elemsOf, zeroOK, evAppend, rowOf, noref, isRef, small, import_, AV.any, AV.anys, isPtr, finV, rename, noPtr, isBad, AV.isUndef, St.setRow, AV.shutV, rebuild, isAggV, evBuild, fillCells, evCutOwn, dedup, nodupB, idx, AV.rows, AV.rowss, AV.mapO, AV.mapOs, firstRegion, gc, keptBoxes, keptRows, renameB, AV.boxes, AV.boxess, plan_9_8, plan_9_14, plan_9_16, ifEv_bool, gate_bool, gateP_bool, gateQ_bool, pick_bool, SN, evCutRow, Int.reduceToNat, id_eq, Int.reduceBEq, Int.reduceLE, Int.reduceLT, SS, one_ne2, num_ne2, TIS, MDS, wanted, numbered, plainC, plainS, evEq, eqK, evBox, evAlloc, evStore, evLoad, evFieldAddr, behind, takeVal, AV.cells, AV.isCell, ofCells, ofCell, Value.cells, Nat.reduceAdd, Nat.reduceEqDiff, Nat.reduceLT, Nat.reduceLeDiff, Nat.reduceMul, Nat.reduceSub, reduceIte])))
  ·
    have s0 := r_laws_szPolicy (fl := false) (k - 1) x0 (by omega) h0 1048576 (by omega) (by omega)
    have z0 : left 1048576 (x0.w) = -1 := left_gt (by omega)
    rw [z0] at s0
    obtain ⟨k, rfl⟩ : ∃ j, k = j + 1 := ⟨k - 1, by omega⟩
    rw [run_succ rfl rfl, body_eq (nt := 53) (fn := Go.Proofs.Try.f9) (by kernel_rfl) rfl rfl rfl rfl rfl rfl rfl rfl]
    simp -implicitDefEqProofs only [Nat.add_sub_cancel, decide_true, Policy.encT, enc_Policy] at s0
    simp -implicitDefEqProofs only [QS, QN, QG, QO, Go.Proofs.Try.f9, Policy.encT, enc_Policy, s0, bne, SO, SH, frzO, frzE, AV.laid, AV.treeV, AV.treeC, St.laid, spent, AV.subs, AV.shut, AV.scal, AV.scals, evBuildSlice, elemsOf, zeroOK, evAppend, rowOf, noref, isRef, small, import_, AV.any, AV.anys, isPtr, finV, rename, noPtr, isBad, AV.isUndef, St.setRow, AV.shutV, rebuild, isAggV, evBuild, fillCells, evCutOwn, dedup, nodupB, idx, AV.rows, AV.rowss, AV.mapO, AV.mapOs, firstRegion, gc, keptBoxes, keptRows, renameB, AV.boxes, AV.boxess, plan_9_8, plan_9_14, plan_9_16, ifEv_bool, gate_bool, gateP_bool, gateQ_bool, pick_bool, SN, evCutRow, Int.reduceToNat, id_eq, Int.reduceBEq, Int.reduceLE, Int.reduceLT, SS, one_ne2, num_ne2, TIS, MDS, wanted, numbered, plainC, plainS, evEq, eqK, evBox, evAlloc, evStore, evLoad, evFieldAddr, behind, takeVal, AV.cells, AV.isCell, ofCells, ofCell, Value.cells, Nat.reduceAdd, Nat.reduceEqDiff, Nat.reduceLT, Nat.reduceLeDiff, Nat.reduceMul, Nat.reduceSub, reduceIte]
    repeat' (split <;> (rename_i h; (try simp -implicitDefEqProofs only [Bool.not_eq_true', Bool.not_eq_false', decide_eq_true_eq, decide_eq_false_iff_not] at h); (try simp -implicitDefEqProofs only [QS, QN, QG, QO, *, Policy.encT, enc_Policy, s0, bne, SO, SH, frzO, frzE, AV.laid, AV.treeV, AV.treeC, St.laid, spent, AV.subs, AV.shut, AV.scal, AV.scals, evBuildSlice, elemsOf, zeroOK, evAppend, rowOf, noref, isRef, small, import_, AV.any, AV.anys, isPtr, finV, rename, noPtr, isBad, AV.isUndef, St.setRow, AV.shutV, rebuild, isAggV, evBuild, fillCells, evCutOwn, dedup, nodupB, idx, AV.rows, AV.rowss, AV.mapO, AV.mapOs, firstRegion, gc, keptBoxes, keptRows, renameB, AV.boxes, AV.boxess, plan_9_8, plan_9_14, plan_9_16, ifEv_bool, gate_bool, gateP_bool, gateQ_bool, pick_bool, SN, evCutRow, Int.reduceToNat, id_eq, Int.reduceBEq, Int.reduceLE, Int.reduceLT, SS, one_ne2, num_ne2, TIS, MDS, wanted, numbered, plainC, plainS, evEq, eqK, evBox, evAlloc, evStore, evLoad, evFieldAddr, behind, takeVal, AV.cells, AV.isCell, ofCells, ofCell, Value.cells, Nat.reduceAdd, Nat.reduceEqDiff, Nat.reduceLT, Nat.reduceLeDiff, Nat.reduceMul, Nat.reduceSub, reduceIte])))
end
open Go.ChangeShapes Go.WideShapes Go.ChangeAt Go.RowKit Flat
theorem own : ownKnob Try.prog.godebug = none := by kernel_rfl
theorem laidOut : laidOutB Try.prog = true := by kernel_rfl
set_option maxRecDepth 100000 in
theorem lifted (os : Os) (started : os.Started) (H : Type) (enc : TypeId × Value → H) :
    ReturnsInHanded {} Try.checked os 9 .any (Rows.fnExactIsSaferSpec.pre6 enc Try.prog Try.f9 Rows.fnExactIsSaferRow.domain false) (Rows.fnExactIsSaferSpec.post enc Try.prog Try.f9 false true false false) := by
  refine returnsInHanded_of_change_sized (C := Try.checked) own started (by kernel_rfl) Try.func9
    (ChangeSpec.witness6 (enc := enc) (C := Try.checked) false ⟨#[], #[.agg #[.int .i64 0, .slice none 0 0], .agg #[.int .i64 0, .slice none 0 0], .int .i64 0, .int .i64 0], []⟩ 8 (by kernel_rfl) (by kernel_rfl) (by kernel_rfl) (by kernel_rfl)) ?_
  intro W base args ds gs before hval0 hW hcnd hsz0 _
  have hsz : (DataW.weightsEach Try.prog (Try.f9.params.toList ++ Rows.fnExactIsSaferSpec.plain.varTypes Try.prog) (ds ++ gs)).all (· ≤ reachBytes) = true := hsz0
  have hval : ∀ (j : Nat) t v, Try.f9.params[j]? = some t → args[j]? = some v → Value.okWide Try.prog W .any base t v := hval0
  have hW' := hW
  obtain ⟨p, q, hA0, hV, rfl, hfz, hnd⟩ := hW
  have hA : DataW.TrodAll enc Try.prog W 0 (fun _ => true) true Try.f9.params.toList args.toList ds p := hA0
  rw [Try.params9] at hA hval hsz
  obtain ⟨v0, vs0, d0, ds0, p0, q0, hargs, rfl, rfl, h0, r0⟩ := trodAll_cons hA
  obtain ⟨v1, vs1, d1, ds1, p1, q1, rfl, rfl, rfl, h1, r1⟩ := trodAll_cons r0
  obtain ⟨v2, vs2, d2, ds2, p2, q2, rfl, rfl, rfl, h2, r2⟩ := trodAll_cons r1
  obtain ⟨v3, vs3, d3, ds3, p3, q3, rfl, rfl, rfl, h3, r3⟩ := trodAll_cons r2
  obtain ⟨rfl, rfl, rfl⟩ := trodAll_nil r3
  obtain rfl : args = #[v0, v1, v2, v3] := by cases args; simp_all
  obtain ⟨rfl, rfl⟩ := trodVars_none hV
  have lt0 : ∀ x ∈ p0, x.block < W.heap.size := by obtain ⟨m, hm⟩ := h0; exact DataW.trod_lt m _ _ _ hm
  obtain ⟨n0, a0, ty0, ro0⟩ := handed (P := Try.prog) (ts := [24, 3, 22, 132, 41, 39]) (by kernel_rfl) (by kernel_rfl) (hval 0 24 v0 rfl rfl) h0 (weights_each hsz 0 24 d0 rfl rfl)
  obtain ⟨x0, rfl, fit0⟩ := shape_24 n0 a0 ty0
  have lt1 : ∀ x ∈ p1, x.block < W.heap.size := by obtain ⟨m, hm⟩ := h1; exact DataW.trod_lt m _ _ _ hm
  obtain ⟨n1, a1, ty1, ro1⟩ := handed (P := Try.prog) (ts := [24, 3, 22, 132, 41, 39]) (by kernel_rfl) (by kernel_rfl) (hval 1 24 v1 rfl rfl) h1 (weights_each hsz 1 24 d1 rfl rfl)
  obtain ⟨x1, rfl, fit1⟩ := shape_24 n1 a1 ty1
  have lt2 : ∀ x ∈ p2, x.block < W.heap.size := by obtain ⟨m, hm⟩ := h2; exact DataW.trod_lt m _ _ _ hm
  obtain ⟨n2, a2, ty2, ro2⟩ := handed (P := Try.prog) (ts := [3]) (by kernel_rfl) (by kernel_rfl) (hval 2 3 v2 rfl rfl) h2 (weights_each hsz 2 3 d2 rfl rfl)
  obtain ⟨x2, rfl, _⟩ := typed_int Try.underlying3 ty2
  have lt3 : ∀ x ∈ p3, x.block < W.heap.size := by obtain ⟨m, hm⟩ := h3; exact DataW.trod_lt m _ _ _ hm
  obtain ⟨n3, a3, ty3, ro3⟩ := handed (P := Try.prog) (ts := [3]) (by kernel_rfl) (by kernel_rfl) (hval 3 3 v3 rfl rfl) h3 (weights_each hsz 3 3 d3 rfl rfl)
  obtain ⟨x3, rfl, _⟩ := typed_int Try.underlying3 ty3
  refine (law_ok mixed sound (ext := noExt) hext (reckoned x0 x1 x2 x3 fit0 fit1 _ (Nat.le_refl _)) (args := #[v0, v1, v2, v3]) (W := W) rfl (fun j hj => by
    rcases j with _ | _ | _ | _ | j
    · exact ro0
    · exact ro1
    · exact ro2
    · exact ro3
    · simp at hj; omega)).mono fun e W' ⟨he, bel⟩ => ?_
  subst he
  exact ⟨_, rfl, _, _, _, [], _, [], hW', trodAll_mk1 (shut_bool Try.underlying4 _), (trodAll_cons_mk (Below.trod laidOut (by kernel_rfl) (of_decide_eq_true (by kernel_rfl)) h0 bel lt0) (trodAll_cons_mk (Below.trod laidOut (by kernel_rfl) (of_decide_eq_true (by kernel_rfl)) h1 bel lt1) (trodAll_cons_mk (Below.trod laidOut (by kernel_rfl) (of_decide_eq_true (by kernel_rfl)) h2 bel lt2) (trodAll_cons_mk (Below.trod laidOut (by kernel_rfl) (of_decide_eq_true (by kernel_rfl)) h3 bel lt3) trodAll_mk0)))), rfl, bel.frame _, fun h => by cases h⟩
theorem over : Rows.fnExactIsSaferRow.holds Try.pinned (OpenSpec.ofChange Rows.fnExactIsSaferSpec) :=
  OpenClaim.holds_of_wide 9 Try.f9 rfl rfl rfl rfl rfl rfl rfl ⟨rfl, rfl, rfl, rfl, rfl⟩ rfl rfl rfl rfl rfl (by kernel_rfl) Try.func9 (by kernel_rfl)
    (of_decide_eq_true (by kernel_rfl)) (by unfold Func.isWrapper; first | (rw [if_pos (by decide +kernel)]; kernel_rfl) | (rw [if_neg (by decide +kernel)]; exact ⟨rfl, rfl⟩))
    (fun os started H enc _ => lifted os started H enc)
theorem proved : Rows.FnExactIsSaferSaid := over
#print axioms proved
end Go.Proofs.Ytbajieiodabdgaa.fnExactIsSafer
namespace Go.Proofs.Ytbajieiodabdgaa
/-- The row, under a short name, for the claim. -/
theorem fnExactIsSafer_holds : Rows.FnExactIsSaferSaid := fnExactIsSafer.proved
end Go.Proofs.Ytbajieiodabdgaa
