/-
The law of TakeLease: it answers true, whatever it is handed.
-/
import Derived.Test.YtkcapoambnnekaaRows
import Derived.Test.YtkcapoambnnekaaEqS
import Derived.Test.YtkcapoambnnekaaEqZ
import Derived.Test.YtkcapoambnnekaaEqT
import Derived.Test.YtkcapoambnnekaaEqQ
import Derived.Test.YtkcapoambnnekaaEqH
import Derived.WalkKit
import Derived.ProofKit
import Derived.OpenShut
import Derived.ShutString
import Derived.ChangeOld
import Derived.Below
import Derived.SizedLaws
import Derived.Carry
set_option linter.unusedVariables false
set_option linter.unusedSimpArgs false
set_option maxRecDepth 10000
namespace Go.Proofs.Ytkcapoambnnekaa.fnExactTakeLease
section
open Flat
theorem reckoned (x0 : List Epoch) (x1 : Int) (x2 : Int) (h0 : FitL Epoch.fits x0) (k : Nat) (hk : 290271069732864 + 4 * ((wl Epoch.w x0)) + 60 ≤ k) : run E noExt k 11 [.sl false (x0.map (Epoch.enc false)), .int .i64 x1, .int .i64 x2] [] = some (.bool true, []) := by
  have hl0 := wl_length Epoch.w x0
  by_cases b0 : (((wl Epoch.w x0) : Nat) : Int) ≤ 1048576
  ·
    have s0 := r_laws_szEpochS (fl := false) (k - 1) x0 (by omega) h0 1048576 (by omega) (by omega)
    have z0 : left 1048576 (wl Epoch.w x0) = 1048576 - (((wl Epoch.w x0) : Nat) : Int) := (left_le (by omega)).trans (by omega)
    have d0 : decide ((1048576 : Int) - (((wl Epoch.w x0) : Nat) : Int) < 0) = false := decide_eq_false (by omega)
    rw [z0] at s0
    have t0 := r_laws_toEpochS (fl := false) (k - 1) (by omega) x0 (by omega)
    have e0 := r_laws_eqEpochS (fl := true) (gl := true) (k - 1) (by omega) x0 x0 (by omega)
    have f0 := r_spec_TakeLease (fl := true) (k - 1) (by omega) x0 (by omega) x1 x2
    have f1 := r_impl_TakeLease (fl := true) (k - 1) (by omega) x0 (by omega) x1 x2
    have f2 := r_laws_eqLease (fl := true) (gl := true) (k - 1) (by omega) (takeLease x0 x1 x2).1 (takeLease x0 x1 x2).1
    obtain ⟨k, rfl⟩ : ∃ j, k = j + 1 := ⟨k - 1, by omega⟩
    rw [run_succ rfl rfl, body_eq (nt := 49) (fn := Go.Proofs.Try.f11) (by kernel_rfl) rfl rfl rfl rfl]
    simp -implicitDefEqProofs only [Nat.add_sub_cancel, decide_true, enc_Epoch, enc_Lease, enc_Policy] at s0 t0 e0 f0 f1 f2
    simp -implicitDefEqProofs only [Go.Proofs.Try.f11, enc_Epoch, enc_Lease, enc_Policy, s0, t0, e0, f0, f1, f2, d0, bne, SO, Bool.or_false, Bool.false_or, Bool.or_self, List.any_cons, List.any_nil, List.headD_cons, noref, isRef, small, import_, AV.any, AV.anys, isPtr, finV, rename, noPtr, isBad, AV.isUndef, St.setRow, AV.shutV, rebuild, isAggV, evBuild, fillCells, List.range_zero, List.range_succ, List.flatMap_cons, List.flatMap_nil, List.filter_nil, List.filter_cons, List.mem_cons, List.not_mem_nil, or_false, false_or, or_true, true_or, decide_not, ne_eq, not_true_eq_false, not_false_eq_true, Option.isSome_some, Option.getD_some, Option.getD_none, beq_self_eq_true, firstRegion, gc, keptBoxes, keptRows, dedup, nodupB, idx, renameB, AV.boxes, AV.boxess, AV.rows, AV.rowss, AV.mapO, AV.mapOs, ifEv_bool, gate_bool, gateQ_bool, pick_bool, SN, id_eq, Int.toNat_natCast, Int.natCast_nonneg, List.getElem?_map, List.length_map, Int.lt_irrefl, Int.toNat_zero, Int.reduceBEq, Int.reduceLE, Int.reduceLT, SS, List.length_cons, List.length_nil, List.getElem?_cons_zero, List.getElem?_cons_succ, Option.bind_some, Option.map_some, beq_true, beq_false, decide_eq_true_eq, Bool.not_eq_true', decide_eq_false_iff_not, List.map_cons, List.map_nil, List.append_nil, Bool.true_and, Bool.false_and, Bool.and_true, Bool.and_false, decide_true, decide_false, Bool.false_eq_true, Bool.not_true, Bool.not_false, List.all_cons, List.all_nil, List.drop_zero, List.drop_succ_cons, List.drop_nil, List.take_succ_cons, List.take_zero, List.take_nil, List.head?_cons, List.cons_append, List.nil_append, Nat.le_refl, Nat.zero_le, List.length_take, List.length_drop, and_self, and_true, true_and, Nat.zero_add, Nat.add_zero, TIS, wanted, numbered, plainC, plainS, evEq, eqK, evBox, evAlloc, evStore, evLoad, evFieldAddr, behind, takeVal, AV.cells, AV.isCell, ofCells, ofCell, Value.cells, Nat.reduceAdd, Nat.reduceEqDiff, Nat.reduceLT, Nat.reduceLeDiff, Nat.reduceMul, Nat.reduceSub, reduceIte]
    repeat' (split <;> (rename_i h; (try simp -implicitDefEqProofs only [Bool.not_eq_true', Bool.not_eq_false', decide_eq_true_eq, decide_eq_false_iff_not] at h); (try simp -implicitDefEqProofs only [*, enc_Epoch, enc_Lease, enc_Policy, s0, t0, e0, f0, f1, f2, d0, bne, SO, Bool.or_false, Bool.false_or, Bool.or_self, List.any_cons, List.any_nil, List.headD_cons, noref, isRef, small, import_, AV.any, AV.anys, isPtr, finV, rename, noPtr, isBad, AV.isUndef, St.setRow, AV.shutV, rebuild, isAggV, evBuild, fillCells, List.range_zero, List.range_succ, List.flatMap_cons, List.flatMap_nil, List.filter_nil, List.filter_cons, List.mem_cons, List.not_mem_nil, or_false, false_or, or_true, true_or, decide_not, ne_eq, not_true_eq_false, not_false_eq_true, Option.isSome_some, Option.getD_some, Option.getD_none, beq_self_eq_true, firstRegion, gc, keptBoxes, keptRows, dedup, nodupB, idx, renameB, AV.boxes, AV.boxess, AV.rows, AV.rowss, AV.mapO, AV.mapOs, ifEv_bool, gate_bool, gateQ_bool, pick_bool, SN, id_eq, Int.toNat_natCast, Int.natCast_nonneg, List.getElem?_map, List.length_map, Int.lt_irrefl, Int.toNat_zero, Int.reduceBEq, Int.reduceLE, Int.reduceLT, SS, List.length_cons, List.length_nil, List.getElem?_cons_zero, List.getElem?_cons_succ, Option.bind_some, Option.map_some, beq_true, beq_false, decide_eq_true_eq, Bool.not_eq_true', decide_eq_false_iff_not, List.map_cons, List.map_nil, List.append_nil, Bool.true_and, Bool.false_and, Bool.and_true, Bool.and_false, decide_true, decide_false, Bool.false_eq_true, Bool.not_true, Bool.not_false, List.all_cons, List.all_nil, List.drop_zero, List.drop_succ_cons, List.drop_nil, List.take_succ_cons, List.take_zero, List.take_nil, List.head?_cons, List.cons_append, List.nil_append, Nat.le_refl, Nat.zero_le, List.length_take, List.length_drop, and_self, and_true, true_and, Nat.zero_add, Nat.add_zero, TIS, wanted, numbered, plainC, plainS, evEq, eqK, evBox, evAlloc, evStore, evLoad, evFieldAddr, behind, takeVal, AV.cells, AV.isCell, ofCells, ofCell, Value.cells, Nat.reduceAdd, Nat.reduceEqDiff, Nat.reduceLT, Nat.reduceLeDiff, Nat.reduceMul, Nat.reduceSub, reduceIte])))
  ·
    have s0 := r_laws_szEpochS (fl := false) (k - 1) x0 (by omega) h0 1048576 (by omega) (by omega)
    have z0 : left 1048576 (wl Epoch.w x0) = -1 := left_gt (by omega)
    rw [z0] at s0
    obtain ⟨k, rfl⟩ : ∃ j, k = j + 1 := ⟨k - 1, by omega⟩
    rw [run_succ rfl rfl, body_eq (nt := 49) (fn := Go.Proofs.Try.f11) (by kernel_rfl) rfl rfl rfl rfl]
    simp -implicitDefEqProofs only [Nat.add_sub_cancel, decide_true, enc_Epoch, enc_Lease, enc_Policy] at s0
    simp -implicitDefEqProofs only [Go.Proofs.Try.f11, enc_Epoch, enc_Lease, enc_Policy, s0, bne, SO, Bool.or_false, Bool.false_or, Bool.or_self, List.any_cons, List.any_nil, List.headD_cons, noref, isRef, small, import_, AV.any, AV.anys, isPtr, finV, rename, noPtr, isBad, AV.isUndef, St.setRow, AV.shutV, rebuild, isAggV, evBuild, fillCells, List.range_zero, List.range_succ, List.flatMap_cons, List.flatMap_nil, List.filter_nil, List.filter_cons, List.mem_cons, List.not_mem_nil, or_false, false_or, or_true, true_or, decide_not, ne_eq, not_true_eq_false, not_false_eq_true, Option.isSome_some, Option.getD_some, Option.getD_none, beq_self_eq_true, firstRegion, gc, keptBoxes, keptRows, dedup, nodupB, idx, renameB, AV.boxes, AV.boxess, AV.rows, AV.rowss, AV.mapO, AV.mapOs, ifEv_bool, gate_bool, gateQ_bool, pick_bool, SN, id_eq, Int.toNat_natCast, Int.natCast_nonneg, List.getElem?_map, List.length_map, Int.lt_irrefl, Int.toNat_zero, Int.reduceBEq, Int.reduceLE, Int.reduceLT, SS, List.length_cons, List.length_nil, List.getElem?_cons_zero, List.getElem?_cons_succ, Option.bind_some, Option.map_some, beq_true, beq_false, decide_eq_true_eq, Bool.not_eq_true', decide_eq_false_iff_not, List.map_cons, List.map_nil, List.append_nil, Bool.true_and, Bool.false_and, Bool.and_true, Bool.and_false, decide_true, decide_false, Bool.false_eq_true, Bool.not_true, Bool.not_false, List.all_cons, List.all_nil, List.drop_zero, List.drop_succ_cons, List.drop_nil, List.take_succ_cons, List.take_zero, List.take_nil, List.head?_cons, List.cons_append, List.nil_append, Nat.le_refl, Nat.zero_le, List.length_take, List.length_drop, and_self, and_true, true_and, Nat.zero_add, Nat.add_zero, TIS, wanted, numbered, plainC, plainS, evEq, eqK, evBox, evAlloc, evStore, evLoad, evFieldAddr, behind, takeVal, AV.cells, AV.isCell, ofCells, ofCell, Value.cells, Nat.reduceAdd, Nat.reduceEqDiff, Nat.reduceLT, Nat.reduceLeDiff, Nat.reduceMul, Nat.reduceSub, reduceIte]
    repeat' (split <;> (rename_i h; (try simp -implicitDefEqProofs only [Bool.not_eq_true', Bool.not_eq_false', decide_eq_true_eq, decide_eq_false_iff_not] at h); (try simp -implicitDefEqProofs only [*, enc_Epoch, enc_Lease, enc_Policy, s0, bne, SO, Bool.or_false, Bool.false_or, Bool.or_self, List.any_cons, List.any_nil, List.headD_cons, noref, isRef, small, import_, AV.any, AV.anys, isPtr, finV, rename, noPtr, isBad, AV.isUndef, St.setRow, AV.shutV, rebuild, isAggV, evBuild, fillCells, List.range_zero, List.range_succ, List.flatMap_cons, List.flatMap_nil, List.filter_nil, List.filter_cons, List.mem_cons, List.not_mem_nil, or_false, false_or, or_true, true_or, decide_not, ne_eq, not_true_eq_false, not_false_eq_true, Option.isSome_some, Option.getD_some, Option.getD_none, beq_self_eq_true, firstRegion, gc, keptBoxes, keptRows, dedup, nodupB, idx, renameB, AV.boxes, AV.boxess, AV.rows, AV.rowss, AV.mapO, AV.mapOs, ifEv_bool, gate_bool, gateQ_bool, pick_bool, SN, id_eq, Int.toNat_natCast, Int.natCast_nonneg, List.getElem?_map, List.length_map, Int.lt_irrefl, Int.toNat_zero, Int.reduceBEq, Int.reduceLE, Int.reduceLT, SS, List.length_cons, List.length_nil, List.getElem?_cons_zero, List.getElem?_cons_succ, Option.bind_some, Option.map_some, beq_true, beq_false, decide_eq_true_eq, Bool.not_eq_true', decide_eq_false_iff_not, List.map_cons, List.map_nil, List.append_nil, Bool.true_and, Bool.false_and, Bool.and_true, Bool.and_false, decide_true, decide_false, Bool.false_eq_true, Bool.not_true, Bool.not_false, List.all_cons, List.all_nil, List.drop_zero, List.drop_succ_cons, List.drop_nil, List.take_succ_cons, List.take_zero, List.take_nil, List.head?_cons, List.cons_append, List.nil_append, Nat.le_refl, Nat.zero_le, List.length_take, List.length_drop, and_self, and_true, true_and, Nat.zero_add, Nat.add_zero, TIS, wanted, numbered, plainC, plainS, evEq, eqK, evBox, evAlloc, evStore, evLoad, evFieldAddr, behind, takeVal, AV.cells, AV.isCell, ofCells, ofCell, Value.cells, Nat.reduceAdd, Nat.reduceEqDiff, Nat.reduceLT, Nat.reduceLeDiff, Nat.reduceMul, Nat.reduceSub, reduceIte])))
end
open Go.ChangeShapes Go.WideShapes Go.ChangeAt Go.RowKit Flat
theorem own : ownKnob Try.prog.godebug = none := by kernel_rfl
theorem laidOut : laidOutB Try.prog = true := by kernel_rfl
set_option maxRecDepth 100000 in
theorem lifted (os : Os) (started : os.Started) (H : Type) (enc : TypeId × Value → H) :
    ReturnsInHanded {} Try.checked os 11 .any (Rows.fnExactTakeLeaseSpec.pre6 enc Try.prog Try.f11 Rows.fnExactTakeLeaseRow.domain false) (Rows.fnExactTakeLeaseSpec.post enc Try.prog Try.f11 false true false false) := by
  refine returnsInHanded_of_change_sized (C := Try.checked) own started (by kernel_rfl) Try.func11
    (ChangeSpec.witness6 (enc := enc) (C := Try.checked) false ⟨#[], #[.slice none 0 0, .int .i64 0, .int .i64 0], []⟩ 8 (by kernel_rfl) (by kernel_rfl) (by kernel_rfl) (by kernel_rfl)) ?_
  intro W base args ds gs before hval0 hW hcnd hsz0 _
  have hsz : (DataW.weightsEach Try.prog (Try.f11.params.toList ++ Rows.fnExactTakeLeaseSpec.plain.varTypes Try.prog) (ds ++ gs)).all (· ≤ reachBytes) = true := hsz0
  have hval : ∀ (j : Nat) t v, Try.f11.params[j]? = some t → args[j]? = some v → Value.okWide Try.prog W .any base t v := hval0
  have hW' := hW
  obtain ⟨p, q, hA0, hV, rfl, hfz, hnd⟩ := hW
  have hA : DataW.TrodAll enc Try.prog W 0 (fun _ => true) true Try.f11.params.toList args.toList ds p := hA0
  rw [Try.params11] at hA hval hsz
  obtain ⟨v0, vs0, d0, ds0, p0, q0, hargs, rfl, rfl, h0, r0⟩ := trodAll_cons hA
  obtain ⟨v1, vs1, d1, ds1, p1, q1, rfl, rfl, rfl, h1, r1⟩ := trodAll_cons r0
  obtain ⟨v2, vs2, d2, ds2, p2, q2, rfl, rfl, rfl, h2, r2⟩ := trodAll_cons r1
  obtain ⟨rfl, rfl, rfl⟩ := trodAll_nil r2
  obtain rfl : args = #[v0, v1, v2] := by cases args; simp_all
  obtain ⟨rfl, rfl⟩ := trodVars_none hV
  have lt0 : ∀ x ∈ p0, x.block < W.heap.size := by obtain ⟨m, hm⟩ := h0; exact DataW.trod_lt m _ _ _ hm
  obtain ⟨n0, a0, ty0, ro0⟩ := handed (P := Try.prog) (ts := [47, 63, 3, 61, 111, 24, 22, 36, 34, 32]) (by kernel_rfl) (by kernel_rfl) (hval 0 47 v0 rfl rfl) h0 (weights_each hsz 0 47 d0 rfl rfl)
  obtain ⟨x0, rfl, fit0⟩ := shape_47 n0 a0 ty0
  have lt1 : ∀ x ∈ p1, x.block < W.heap.size := by obtain ⟨m, hm⟩ := h1; exact DataW.trod_lt m _ _ _ hm
  obtain ⟨n1, a1, ty1, ro1⟩ := handed (P := Try.prog) (ts := [3]) (by kernel_rfl) (by kernel_rfl) (hval 1 3 v1 rfl rfl) h1 (weights_each hsz 1 3 d1 rfl rfl)
  obtain ⟨x1, rfl, _⟩ := typed_int Try.underlying3 ty1
  have lt2 : ∀ x ∈ p2, x.block < W.heap.size := by obtain ⟨m, hm⟩ := h2; exact DataW.trod_lt m _ _ _ hm
  obtain ⟨n2, a2, ty2, ro2⟩ := handed (P := Try.prog) (ts := [3]) (by kernel_rfl) (by kernel_rfl) (hval 2 3 v2 rfl rfl) h2 (weights_each hsz 2 3 d2 rfl rfl)
  obtain ⟨x2, rfl, _⟩ := typed_int Try.underlying3 ty2
  refine (law_ok mixed sound hkill hmd (ext := noExt) (fun f g hg => by simp [noExt] at hg) (reckoned x0 x1 x2 fit0 _ (Nat.le_refl _)) (args := #[v0, v1, v2]) (W := W) rfl (fun j hj => by
    rcases j with _ | _ | _ | j
    · exact ro0
    · exact ro1
    · exact ro2
    · simp at hj; omega)).mono fun e W' ⟨he, bel⟩ => ?_
  subst he
  exact ⟨_, rfl, _, _, _, [], _, [], hW', trodAll_mk1 (shut_bool Try.underlying4 _), (trodAll_cons_mk (Below.trod laidOut (by kernel_rfl) (of_decide_eq_true (by kernel_rfl)) h0 bel lt0) (trodAll_cons_mk (Below.trod laidOut (by kernel_rfl) (of_decide_eq_true (by kernel_rfl)) h1 bel lt1) (trodAll_cons_mk (Below.trod laidOut (by kernel_rfl) (of_decide_eq_true (by kernel_rfl)) h2 bel lt2) trodAll_mk0))), rfl, bel.frame _, fun h => by cases h⟩
theorem over : Rows.fnExactTakeLeaseRow.holds Try.pinned (OpenSpec.ofChange Rows.fnExactTakeLeaseSpec) :=
  OpenClaim.holds_of_wide 11 Try.f11 rfl rfl rfl rfl rfl rfl rfl ⟨rfl, rfl, rfl, rfl, rfl⟩ rfl rfl rfl rfl rfl (by kernel_rfl) Try.func11 (by kernel_rfl)
    (of_decide_eq_true (by kernel_rfl)) (by unfold Func.isWrapper; first | (rw [if_pos (by decide +kernel)]; kernel_rfl) | (rw [if_neg (by decide +kernel)]; exact ⟨rfl, rfl⟩))
    (fun os started H enc _ => lifted os started H enc)
theorem proved : Rows.FnExactTakeLeaseSaid := over
#print axioms proved
end Go.Proofs.Ytkcapoambnnekaa.fnExactTakeLease
namespace Go.Proofs.Ytkcapoambnnekaa
/-- The row, under a short name, for the claim. -/
theorem fnExactTakeLease_holds : Rows.FnExactTakeLeaseSaid := fnExactTakeLease.proved
end Go.Proofs.Ytkcapoambnnekaa
