/-
A diagram's table.
-/
import Derived.Test.YtkadcnfpjppdbaaEqYM
import Derived.Test.YtkadcnfpjppdbaaEqH
set_option linter.unusedVariables false
set_option linter.unusedSimpArgs false
set_option maxRecDepth 10000
namespace Go.Proofs.Ytkadcnfpjppdbaa.Flat
def valsOf (n i : Nat) : List Bool := (List.range n).map fun k => decide (i / 2 ^ k % 2 = 1)
theorem valsOf_succ (n i : Nat) : valsOf (n + 1) i = valsOf n i ++ [decide (i / 2 ^ n % 2 = 1)] := by simp [valsOf, List.range_succ]
theorem valsOf_len (n i : Nat) : (valsOf n i).length = n := by simp [valsOf]
theorem wrap_small : ∀ i < 64, ∀ k < 6, IntKind.i64.wrap (((i : Nat) : Int).tdiv ((2 ^ k : Nat) : Int)) = ((i / 2 ^ k : Nat) : Int) := by decide
theorem shr_small : ∀ i < 64, ∀ k < 6, ((i : Nat) : Int).fdiv (2 ^ (min ((k : Nat) : Int).toNat IntKind.i64.bits)) = ((i / 2 ^ k : Nat) : Int) := by decide
theorem rem_small : ∀ i < 64, ((i : Nat) : Int).tmod 2 = ((i % 2 : Nat) : Int) := by decide
theorem and_small : ∀ i < 64, bits .and .i64 ((i : Nat) : Int) 1 = ((i % 2 : Nat) : Int) := by decide
theorem one_small : ∀ i < 64, (((i % 2 : Nat) : Int) == 1) = decide (i % 2 = 1) := by decide
theorem dbl_small : ∀ k < 6, IntKind.i64.wrap (2 * ((2 ^ k : Nat) : Int)) = ((2 ^ (k + 1) : Nat) : Int) := by decide
theorem shl_small : ∀ k < 7, IntKind.i64.wrap (1 * 2 ^ (min ((k : Nat) : Int).toNat IntKind.i64.bits)) = ((2 ^ k : Nat) : Int) := by decide
theorem r_spec_l21Bit (k : Nat) (hk : 281474976710656 + 1 ≤ k) (n : Nat) (hn : n ≤ 6) : run E noExt k 36 [.int .i64 (n : Nat)] [] = some (.int .i64 ((2 ^ n : Nat) : Int), []) := by
  obtain ⟨k, rfl⟩ : ∃ j, k = j + 1 := ⟨k - 1, by omega⟩
  rw [run_succ rfl rfl, body_eq (nt := 13) (fn := Go.Proofs.Try.f36) (by kernel_rfl) rfl rfl rfl rfl rfl rfl rfl rfl]
  simp -implicitDefEqProofs only [QS, QN, ZRS, ↓ZDS, Go.Proofs.Try.f36, SN, evCutRow, Int.reduceToNat, id_eq, Int.reduceBEq, Int.reduceLE, Int.reduceLT, SS, one_ne2, num_ne2, TIS, MDS, AV.cells, AV.isCell, Value.cells, Nat.reduceAdd, Nat.reduceEqDiff, Nat.reduceLT, Nat.reduceLeDiff, Nat.reduceMul, Nat.reduceSub, reduceIte]
  rw [ev_loop]
  refine Eq.trans (loop_list (Q := fun (_ : Unit) z => thenEnd E.P [] _ 0 (thenEv E _ _ _ _ _ (outOf 0 z)) = some (.int .i64 ((2 ^ n : Nat) : Int), [])) (List.range n) (fun _ _ _ => .inr ()) id
    (fun i _ => { sl := [(0, .int .i64 (n : Nat)), (3, .int .i64 ((2 ^ i : Nat) : Int)), (4, .int .i64 (i : Nat))], bx := [], nx := 0, nt := 13 })
    (fun _ _ => True) () ?_ ?_ (by simp; omega) trivial ?_) ?_
  · intro _ _
    simp -implicitDefEqProofs only [QS, QN, QG, ZRS, ↓ZDS, ZRG, ↓ZDG, List.length_range, leaf_some, isNormal, ifEv_bool, gate_bool, gateP_bool, gateQ_bool, pick_bool, SN, evCutRow, Int.reduceToNat, id_eq, Int.reduceBEq, Int.reduceLE, Int.reduceLT, SS, one_ne2, num_ne2, TIS, MDS, AV.cells, AV.isCell, Value.cells, Nat.reduceAdd, Nat.reduceEqDiff, Nat.reduceLT, Nat.reduceLeDiff, Nat.reduceMul, Nat.reduceSub, reduceIte]
    repeat' (split <;> (rename_i h; (try simp -implicitDefEqProofs only [Bool.not_eq_true', Bool.not_eq_false', decide_eq_true_eq, decide_eq_false_iff_not] at h); (try simp -implicitDefEqProofs only [QS, QN, QG, ZRS, ↓ZDS, ZRG, ↓ZDG, *, List.length_range, leaf_some, isNormal, ifEv_bool, gate_bool, gateP_bool, gateQ_bool, pick_bool, SN, evCutRow, Int.reduceToNat, id_eq, Int.reduceBEq, Int.reduceLE, Int.reduceLT, SS, one_ne2, num_ne2, TIS, MDS, AV.cells, AV.isCell, Value.cells, Nat.reduceAdd, Nat.reduceEqDiff, Nat.reduceLT, Nat.reduceLeDiff, Nat.reduceMul, Nat.reduceSub, reduceIte])))
  · intro pre x r' _ hs' _
    have hp : pre.length < n := by have := congrArg List.length hs'; simp at this; omega
    have h5 : ((pre.length : Int) < (n : Int)) = True := eq_true (by omega)
    have hw1 : IntKind.i64.wrap ((pre.length : Int) + 1) = ((pre.length + 1 : Nat) : Int) := by rw [IntWalk.i64_in _ (by omega)]; omega
    have hd := dbl_small pre.length (by omega)
    clear hs'
    simp -implicitDefEqProofs only [QS, QN, QG, ZRS, ↓ZDS, ZRG, ↓ZDG, h5, hw1, hd, keep_36_3, leaf_some, isNormal, ifEv_bool, gate_bool, gateP_bool, gateQ_bool, pick_bool, SN, evCutRow, Int.reduceToNat, id_eq, Int.reduceBEq, Int.reduceLE, Int.reduceLT, SS, one_ne2, num_ne2, TIS, MDS, AV.cells, AV.isCell, Value.cells, Nat.reduceAdd, Nat.reduceEqDiff, Nat.reduceLT, Nat.reduceLeDiff, Nat.reduceMul, Nat.reduceSub, reduceIte]
    repeat' (split <;> (rename_i h; (try simp -implicitDefEqProofs only [Bool.not_eq_true', Bool.not_eq_false', decide_eq_true_eq, decide_eq_false_iff_not] at h); (try simp -implicitDefEqProofs only [QS, QN, QG, ZRS, ↓ZDS, ZRG, ↓ZDG, *, h5, hw1, hd, keep_36_3, leaf_some, isNormal, ifEv_bool, gate_bool, gateP_bool, gateQ_bool, pick_bool, SN, evCutRow, Int.reduceToNat, id_eq, Int.reduceBEq, Int.reduceLE, Int.reduceLT, SS, one_ne2, num_ne2, TIS, MDS, AV.cells, AV.isCell, Value.cells, Nat.reduceAdd, Nat.reduceEqDiff, Nat.reduceLT, Nat.reduceLeDiff, Nat.reduceMul, Nat.reduceSub, reduceIte])))
  · simp -implicitDefEqProofs only [firstRegion]; rw [keep_36_3]; simp -implicitDefEqProofs only [QS, QN, QG, ZRS, ↓ZDS, ZRG, ↓ZDG, SN, evCutRow, Int.reduceToNat, id_eq, Int.reduceBEq, Int.reduceLE, Int.reduceLT, SS, one_ne2, num_ne2, TIS, MDS, AV.cells, AV.isCell, Value.cells, Nat.reduceAdd, Nat.reduceEqDiff, Nat.reduceLT, Nat.reduceLeDiff, Nat.reduceMul, Nat.reduceSub, reduceIte]; first | done | rfl
  · rfl
theorem r_spec_l21Values (k : Nat) (hk : 281474976710656 + 2 ≤ k) (n i : Nat) (hn : n ≤ 6) (hi : i < 64) : run E noExt k 37 [.int .i64 (n : Nat), .int .i64 (i : Nat)] [] = some (.own 0 false 4 1 ((valsOf n i).map AV.bool), []) := by
  have c1 := r_spec_l21Bit (k - 1) (by omega)
  obtain ⟨k, rfl⟩ : ∃ j, k = j + 1 := ⟨k - 1, by omega⟩
  rw [run_succ rfl rfl, body_eq (nt := 23) (fn := Go.Proofs.Try.f37) (by kernel_rfl) rfl rfl rfl rfl rfl rfl rfl rfl]
  simp -implicitDefEqProofs only [Nat.add_sub_cancel] at c1
  simp -implicitDefEqProofs only [QS, QN, QO, ZRS, ↓ZDS, ZRO, ↓ZDO, Go.Proofs.Try.f37, SO, SH, evAppend, rowOf, noref, isRef, isPtr, noPtr, isBad, AV.isUndef, dedup, nodupB, idx, AV.rows, AV.rowss, AV.mapO, AV.mapOs, SN, evCutRow, Int.reduceToNat, id_eq, Int.reduceBEq, Int.reduceLE, Int.reduceLT, SS, one_ne2, num_ne2, TIS, MDS, AV.cells, AV.isCell, Value.cells, Nat.reduceAdd, Nat.reduceEqDiff, Nat.reduceLT, Nat.reduceLeDiff, Nat.reduceMul, Nat.reduceSub, reduceIte]
  rw [ev_loop]
  refine Eq.trans (loop_list (Q := fun (_ : Unit) z => thenEnd E.P [] _ 0 (thenEv E _ _ _ _ _ (outOf 0 z)) = some (.own 0 false 4 1 ((valsOf n i).map AV.bool), [])) (List.range n) (fun _ _ _ => .inr ()) id
    (fun j _ => { sl := [(0, .int .i64 (n : Nat)), (1, .int .i64 (i : Nat)), (5, .own 0 false 4 1 ((valsOf j i).map AV.bool)), (6, .int .i64 (j : Nat))], bx := [], nx := 1, nt := 23 })
    (fun _ _ => True) () ?_ ?_ (by simp; omega) trivial ?_) ?_
  · intro _ _
    simp -implicitDefEqProofs only [QS, QN, QG, QO, ZRS, ↓ZDS, ZRG, ↓ZDG, ZRO, ↓ZDO, List.length_range, rowss_bools, boxess_bools, mapOs_bools, SO, SH, evAppend, rowOf, noref, isRef, isPtr, noPtr, isBad, AV.isUndef, leaf_some, isNormal, ifEv_bool, gate_bool, gateP_bool, gateQ_bool, pick_bool, SN, evCutRow, Int.reduceToNat, id_eq, Int.reduceBEq, Int.reduceLE, Int.reduceLT, SS, one_ne2, num_ne2, TIS, MDS, AV.cells, AV.isCell, Value.cells, Nat.reduceAdd, Nat.reduceEqDiff, Nat.reduceLT, Nat.reduceLeDiff, Nat.reduceMul, Nat.reduceSub, reduceIte]
    repeat' (split <;> (rename_i h; (try simp -implicitDefEqProofs only [Bool.not_eq_true', Bool.not_eq_false', decide_eq_true_eq, decide_eq_false_iff_not] at h); (try simp -implicitDefEqProofs only [QS, QN, QG, QO, ZRS, ↓ZDS, ZRG, ↓ZDG, ZRO, ↓ZDO, *, List.length_range, rowss_bools, boxess_bools, mapOs_bools, SO, SH, evAppend, rowOf, noref, isRef, isPtr, noPtr, isBad, AV.isUndef, leaf_some, isNormal, ifEv_bool, gate_bool, gateP_bool, gateQ_bool, pick_bool, SN, evCutRow, Int.reduceToNat, id_eq, Int.reduceBEq, Int.reduceLE, Int.reduceLT, SS, one_ne2, num_ne2, TIS, MDS, AV.cells, AV.isCell, Value.cells, Nat.reduceAdd, Nat.reduceEqDiff, Nat.reduceLT, Nat.reduceLeDiff, Nat.reduceMul, Nat.reduceSub, reduceIte])))
  · intro pre x r' _ hs' _
    have hp : pre.length < n := by have := congrArg List.length hs'; simp at this; omega
    have h5 : ((pre.length : Int) < (n : Int)) = True := eq_true (by omega)
    have hw1 : IntKind.i64.wrap ((pre.length : Int) + 1) = ((pre.length + 1 : Nat) : Int) := by rw [IntWalk.i64_in _ (by omega)]; omega
    clear hs'
    have c2 := c1 pre.length (by omega)
    have hq := wrap_small i hi pre.length (by omega)
    have hlt : i / 2 ^ pre.length < 64 := Nat.lt_of_le_of_lt (Nat.div_le_self _ _) hi
    have hr := rem_small _ hlt
    have ho := one_small _ hlt
    have hz : ((((2 ^ pre.length : Nat) : Int)) = 0) = False := eq_false (by have := Nat.pow_pos (n := pre.length) (show 0 < 2 by decide); omega)
    have hv := valsOf_succ pre.length i
    have hl := valsOf_len pre.length i
    have hm1 : (valsOf pre.length i).length + 1 ≤ 140737488355328 := by omega
    have hm2 : (valsOf pre.length i).length + 1 ≤ 9223372036854775807 := by omega
    generalize hbb : decide (i / 2 ^ pre.length % 2 = 1) = bb at ho hv
    have hpl : plains [AV.bool bb] = true := rfl
    generalize ((2 ^ pre.length : Nat) : Int) = pw at c2 hq hz
    generalize ((i / 2 ^ pre.length : Nat) : Int) = qq at hq hr
    generalize ((i / 2 ^ pre.length % 2 : Nat) : Int) = rr at hr ho
    have hqu : ∀ t, evBin2 E.P .quo t (.int .i64 ((i : Nat) : Int)) (.int .i64 pw) = some (.int .i64 qq) := fun t => by rw [bin_quo (fun e => by rw [hz] at e; exact e), hq]
    have hre : ∀ t, evBin2 E.P .rem t (.int .i64 qq) (.int .i64 2) = some (.int .i64 rr) := fun t => by simp [evBin2, evBin, evInt, hr]
    clear hq hr hz
    simp -implicitDefEqProofs only [QS, QN, QG, QO, ZRS, ↓ZDS, ZRG, ↓ZDG, ZRO, ↓ZDO, h5, hw1, c2, hqu, hre, ho, hv, hm1, hm2, hpl, Nat.mul_one, List.map_append, rowss_bools, boxess_bools, mapOs_bools, SO, SH, evAppend, rowOf, noref, isRef, isPtr, noPtr, isBad, AV.isUndef, keep_37_3, leaf_some, isNormal, ifEv_bool, gate_bool, gateP_bool, gateQ_bool, pick_bool, SN, evCutRow, Int.reduceToNat, id_eq, Int.reduceBEq, Int.reduceLE, Int.reduceLT, SS, one_ne2, num_ne2, TIS, MDS, AV.cells, AV.isCell, Value.cells, Nat.reduceAdd, Nat.reduceEqDiff, Nat.reduceLT, Nat.reduceLeDiff, Nat.reduceMul, Nat.reduceSub, reduceIte]
    repeat' (split <;> (rename_i h; (try simp -implicitDefEqProofs only [Bool.not_eq_true', Bool.not_eq_false', decide_eq_true_eq, decide_eq_false_iff_not] at h); (try simp -implicitDefEqProofs only [QS, QN, QG, QO, ZRS, ↓ZDS, ZRG, ↓ZDG, ZRO, ↓ZDO, *, h5, hw1, c2, hqu, hre, ho, hv, hm1, hm2, hpl, Nat.mul_one, List.map_append, rowss_bools, boxess_bools, mapOs_bools, SO, SH, evAppend, rowOf, noref, isRef, isPtr, noPtr, isBad, AV.isUndef, keep_37_3, leaf_some, isNormal, ifEv_bool, gate_bool, gateP_bool, gateQ_bool, pick_bool, SN, evCutRow, Int.reduceToNat, id_eq, Int.reduceBEq, Int.reduceLE, Int.reduceLT, SS, one_ne2, num_ne2, TIS, MDS, AV.cells, AV.isCell, Value.cells, Nat.reduceAdd, Nat.reduceEqDiff, Nat.reduceLT, Nat.reduceLeDiff, Nat.reduceMul, Nat.reduceSub, reduceIte])))
  · simp -implicitDefEqProofs only [firstRegion]
    rw [keep_37_3]
    have hu0 : valsOf 0 i = [] := rfl
    simp -implicitDefEqProofs only [QS, QN, QG, QO, ZRS, ↓ZDS, ZRG, ↓ZDG, ZRO, ↓ZDO, hu0, SN, evCutRow, Int.reduceToNat, id_eq, Int.reduceBEq, Int.reduceLE, Int.reduceLT, SO, SH, evAppend, rowOf, noref, isRef, isPtr, noPtr, isBad, AV.isUndef, SS, one_ne2, num_ne2, TIS, MDS, AV.cells, AV.isCell, Value.cells, Nat.reduceAdd, Nat.reduceEqDiff, Nat.reduceLT, Nat.reduceLeDiff, Nat.reduceMul, Nat.reduceSub, reduceIte]
  · rfl
theorem r_impl_valuesOf (k : Nat) (hk : 281474976710656 + 2 ≤ k) (n i : Nat) (hn : n ≤ 6) (hi : i < 64) : run E noExt k 43 [.int .i64 (n : Nat), .int .i64 (i : Nat)] [] = some (.own 0 false 4 1 ((valsOf n i).map AV.bool), []) := by
  obtain ⟨k, rfl⟩ : ∃ j, k = j + 1 := ⟨k - 1, by omega⟩
  rw [run_succ rfl rfl, body_eq (nt := 22) (fn := Go.Proofs.Try.f43) (by kernel_rfl) rfl rfl rfl rfl rfl rfl rfl rfl]
  simp -implicitDefEqProofs only [QS, QN, QO, ZRS, ↓ZDS, ZRO, ↓ZDO, Go.Proofs.Try.f43, SO, SH, evAppend, rowOf, noref, isRef, isPtr, noPtr, isBad, AV.isUndef, dedup, nodupB, idx, AV.rows, AV.rowss, AV.mapO, AV.mapOs, SN, evCutRow, Int.reduceToNat, id_eq, Int.reduceBEq, Int.reduceLE, Int.reduceLT, SS, one_ne2, num_ne2, TIS, MDS, AV.cells, AV.isCell, Value.cells, Nat.reduceAdd, Nat.reduceEqDiff, Nat.reduceLT, Nat.reduceLeDiff, Nat.reduceMul, Nat.reduceSub, reduceIte]
  rw [ev_loop]
  refine Eq.trans (loop_list (Q := fun (_ : Unit) z => thenEnd E.P [] _ 0 (thenEv E _ _ _ _ _ (outOf 0 z)) = some (.own 0 false 4 1 ((valsOf n i).map AV.bool), [])) (List.range n) (fun _ _ _ => .inr ()) id
    (fun j _ => { sl := [(1, .int .i64 (i : Nat)), (5, .own 0 false 4 1 ((valsOf j i).map AV.bool)), (8, .int .i64 (n : Nat)), (9, .int .i64 (j : Nat))], bx := [], nx := 1, nt := 22 })
    (fun _ _ => True) () ?_ ?_ (by simp; omega) trivial ?_) ?_
  · intro _ _
    simp -implicitDefEqProofs only [QS, QN, QG, QO, ZRS, ↓ZDS, ZRG, ↓ZDG, ZRO, ↓ZDO, List.length_range, rowss_bools, boxess_bools, mapOs_bools, SO, SH, evAppend, rowOf, noref, isRef, isPtr, noPtr, isBad, AV.isUndef, leaf_some, isNormal, ifEv_bool, gate_bool, gateP_bool, gateQ_bool, pick_bool, SN, evCutRow, Int.reduceToNat, id_eq, Int.reduceBEq, Int.reduceLE, Int.reduceLT, SS, one_ne2, num_ne2, TIS, MDS, AV.cells, AV.isCell, Value.cells, Nat.reduceAdd, Nat.reduceEqDiff, Nat.reduceLT, Nat.reduceLeDiff, Nat.reduceMul, Nat.reduceSub, reduceIte]
    repeat' (split <;> (rename_i h; (try simp -implicitDefEqProofs only [Bool.not_eq_true', Bool.not_eq_false', decide_eq_true_eq, decide_eq_false_iff_not] at h); (try simp -implicitDefEqProofs only [QS, QN, QG, QO, ZRS, ↓ZDS, ZRG, ↓ZDG, ZRO, ↓ZDO, *, List.length_range, rowss_bools, boxess_bools, mapOs_bools, SO, SH, evAppend, rowOf, noref, isRef, isPtr, noPtr, isBad, AV.isUndef, leaf_some, isNormal, ifEv_bool, gate_bool, gateP_bool, gateQ_bool, pick_bool, SN, evCutRow, Int.reduceToNat, id_eq, Int.reduceBEq, Int.reduceLE, Int.reduceLT, SS, one_ne2, num_ne2, TIS, MDS, AV.cells, AV.isCell, Value.cells, Nat.reduceAdd, Nat.reduceEqDiff, Nat.reduceLT, Nat.reduceLeDiff, Nat.reduceMul, Nat.reduceSub, reduceIte])))
  · intro pre x r' _ hs' _
    have hp : pre.length < n := by have := congrArg List.length hs'; simp at this; omega
    have h5 : ((pre.length : Int) < (n : Int)) = True := eq_true (by omega)
    have hng : (((pre.length : Nat) : Int) < 0) = False := eq_false (by omega)
    have hw1 : IntKind.i64.wrap ((pre.length : Int) + 1) = ((pre.length + 1 : Nat) : Int) := by rw [IntWalk.i64_in _ (by omega)]; omega
    clear hs'
    have hq := shr_small i hi pre.length (by omega)
    have hlt : i / 2 ^ pre.length < 64 := Nat.lt_of_le_of_lt (Nat.div_le_self _ _) hi
    have hr := and_small _ hlt
    have ho := one_small _ hlt
    have hv := valsOf_succ pre.length i
    have hl := valsOf_len pre.length i
    have hm1 : (valsOf pre.length i).length + 1 ≤ 140737488355328 := by omega
    have hm2 : (valsOf pre.length i).length + 1 ≤ 9223372036854775807 := by omega
    generalize hbb : decide (i / 2 ^ pre.length % 2 = 1) = bb at ho hv
    have hpl : plains [AV.bool bb] = true := rfl
    generalize ((i / 2 ^ pre.length : Nat) : Int) = qq at hq hr
    generalize ((i / 2 ^ pre.length % 2 : Nat) : Int) = rr at hr ho
    have hsh : ∀ t, evBin2 E.P .shr t (.int .i64 ((i : Nat) : Int)) (.int .i64 ((pre.length : Nat) : Int)) = some (.int .i64 qq) := fun t => by simp -implicitDefEqProofs only [evBin2, evBin, evShift, hng, if_false, hq]
    have han : ∀ t, evBin2 E.P .and t (.int .i64 qq) (.int .i64 1) = some (.int .i64 rr) := fun t => by simp [evBin2, evBin, evInt, hr]
    clear hq hr
    simp -implicitDefEqProofs only [QS, QN, QG, QO, ZRS, ↓ZDS, ZRG, ↓ZDG, ZRO, ↓ZDO, h5, hw1, hsh, han, ho, hv, hm1, hm2, hpl, Nat.mul_one, List.map_append, rowss_bools, boxess_bools, mapOs_bools, SO, SH, evAppend, rowOf, noref, isRef, isPtr, noPtr, isBad, AV.isUndef, keep_43_3, leaf_some, isNormal, ifEv_bool, gate_bool, gateP_bool, gateQ_bool, pick_bool, SN, evCutRow, Int.reduceToNat, id_eq, Int.reduceBEq, Int.reduceLE, Int.reduceLT, SS, one_ne2, num_ne2, TIS, MDS, AV.cells, AV.isCell, Value.cells, Nat.reduceAdd, Nat.reduceEqDiff, Nat.reduceLT, Nat.reduceLeDiff, Nat.reduceMul, Nat.reduceSub, reduceIte]
    repeat' (split <;> (rename_i h; (try simp -implicitDefEqProofs only [Bool.not_eq_true', Bool.not_eq_false', decide_eq_true_eq, decide_eq_false_iff_not] at h); (try simp -implicitDefEqProofs only [QS, QN, QG, QO, ZRS, ↓ZDS, ZRG, ↓ZDG, ZRO, ↓ZDO, *, h5, hw1, hsh, han, ho, hv, hm1, hm2, hpl, Nat.mul_one, List.map_append, rowss_bools, boxess_bools, mapOs_bools, SO, SH, evAppend, rowOf, noref, isRef, isPtr, noPtr, isBad, AV.isUndef, keep_43_3, leaf_some, isNormal, ifEv_bool, gate_bool, gateP_bool, gateQ_bool, pick_bool, SN, evCutRow, Int.reduceToNat, id_eq, Int.reduceBEq, Int.reduceLE, Int.reduceLT, SS, one_ne2, num_ne2, TIS, MDS, AV.cells, AV.isCell, Value.cells, Nat.reduceAdd, Nat.reduceEqDiff, Nat.reduceLT, Nat.reduceLeDiff, Nat.reduceMul, Nat.reduceSub, reduceIte])))
  · simp -implicitDefEqProofs only [firstRegion]
    rw [keep_43_3]
    have hu0 : valsOf 0 i = [] := rfl
    simp -implicitDefEqProofs only [QS, QN, QG, QO, ZRS, ↓ZDS, ZRG, ↓ZDG, ZRO, ↓ZDO, hu0, SN, evCutRow, Int.reduceToNat, id_eq, Int.reduceBEq, Int.reduceLE, Int.reduceLT, SO, SH, evAppend, rowOf, noref, isRef, isPtr, noPtr, isBad, AV.isUndef, SS, one_ne2, num_ne2, TIS, MDS, AV.cells, AV.isCell, Value.cells, Nat.reduceAdd, Nat.reduceEqDiff, Nat.reduceLT, Nat.reduceLeDiff, Nat.reduceMul, Nat.reduceSub, reduceIte]
  · rfl
theorem scals_bools2 (m : List Bool) : AV.scals (m.map AV.bool) = true := by
  induction m with
  | nil => rfl
  | cons b m ih => simpa [AV.scals, AV.scal] using ih
theorem plains_bools2 (m : List Bool) : plains (m.map AV.bool) = true := plains_map (fun _ => rfl) m
end Go.Proofs.Ytkadcnfpjppdbaa.Flat
namespace Go.Proofs.Ytkadcnfpjppdbaa.Flat
noncomputable def atomsL (a o : Int) : List Rule → List Cond → List Cond
  | [], out => out
  | r :: rs, out => atomsL a o rs (if isFor r a o = true then gather r.cond out else out)
noncomputable def atomsOf (p : Policy) (a o : Int) : List Cond := atomsL a o p.rules []
noncomputable def atStep (a o : Int) (_ : Nat) (r : Rule) (b : List Cond) : Sum (List Cond) (List Cond) := .inr (if isFor r a o = true then gather r.cond b else b)
theorem atLoop (a o : Int) : ∀ (s : List Rule) (i : Nat) (b : List Cond), loopL (atStep a o) id i s b = atomsL a o s b
  | [], i, b => rfl
  | c :: r, i, b => by
    simp -implicitDefEqProofs only [loopL, atStep, atomsL]
    exact atLoop a o r _ _
theorem atomsL_facts (a o : Int) : ∀ (s : List Rule) (out : List Cond), (Leaves out → Leaves (atomsL a o s out)) ∧ (atomsL a o s out).length ≤ out.length + wl Rule.w s
  | [], out => ⟨fun h => h, by simp [atomsL, wl]⟩
  | c :: r, out => by
    have h1 := gather_facts c.cond out
    have hw : c.w = c.cond.w := rfl
    simp -implicitDefEqProofs only [atomsL, wl]
    cases e : isFor c a o
    · have h2 := atomsL_facts a o r out
      simp -implicitDefEqProofs only [Bool.false_eq_true, if_false]
      exact ⟨h2.1, by omega⟩
    · have h2 := atomsL_facts a o r (gather c.cond out)
      simp -implicitDefEqProofs only [if_true]
      exact ⟨fun h => h2.1 (h1.1 h), by omega⟩
theorem leaves_nil : Leaves [] := fun _ h => by simp at h
theorem atomsOf_leaves (p : Policy) (a o : Int) : Leaves (atomsOf p a o) := (atomsL_facts a o p.rules []).1 leaves_nil
theorem atomsOf_len (p : Policy) (a o : Int) : (atomsOf p a o).length ≤ p.w := by
  have := (atomsL_facts a o p.rules []).2
  unfold atomsOf Policy.w
  simpa using this
theorem r_impl_AtomsFor {fl : Bool} (k : Nat) (p : Policy) (hk : 290271069732864 + 4 * p.w + 30 ≤ k) (hp : p.w ≤ 1099511627776) (a o : Int) :
    run E noExt k 56 [p.enc fl, .int .i64 a, .int .i64 o] [] = some (.own 0 false 42 4 ((atomsOf p a o).map (Cond.enc true)), []) := by
  unfold Policy.w at hk hp
  have hs1 := wl_length Rule.w p.rules
  have hs : p.rules.length ≤ 140737488355328 := by omega
  have c1 := fun (c : Rule) => r_impl_IsFor (fl := fl) (k - 1) (by omega) c a o
  have c2 := fun (c : Rule) (hc : c ∈ p.rules) out ho hl => r_impl_gathered0 (fl := fl) c.cond (k - 1) (by have := wl_mem (w := Rule.w) hc; have hw : c.w = c.cond.w := rfl; omega) (by have := wl_mem (w := Rule.w) hc; have hw : c.w = c.cond.w := rfl; omega) out ho hl
  unfold atomsOf
  obtain ⟨k, rfl⟩ : ∃ j, k = j + 1 := ⟨k - 1, by omega⟩
  rw [run_succ rfl rfl, body_eq (nt := 28) (fn := Go.Proofs.Try.f56) (by kernel_rfl) rfl rfl rfl rfl rfl rfl rfl rfl]
  simp -implicitDefEqProofs only [Nat.add_sub_cancel, enc_Cond, enc_Rule] at c1 c2
  simp -implicitDefEqProofs only [QS, QN, QO, ZRS, ↓ZDS, ZRO, ↓ZDO, Go.Proofs.Try.f56, enc_Policy, SO, SH, evAppend, rowOf, noref, isRef, isPtr, noPtr, isBad, AV.isUndef, dedup, nodupB, idx, AV.rows, AV.rowss, AV.mapO, AV.mapOs, SN, evCutRow, Int.reduceToNat, id_eq, Int.reduceBEq, Int.reduceLE, Int.reduceLT, SS, one_ne2, num_ne2, TIS, MDS, AV.cells, AV.isCell, Value.cells, Nat.reduceAdd, Nat.reduceEqDiff, Nat.reduceLT, Nat.reduceLeDiff, Nat.reduceMul, Nat.reduceSub, reduceIte]
  rw [ev_loop]
  refine Eq.trans (loop_list (Q := fun (g : List Cond) z => thenEnd E.P _ _ 0 (thenEv E _ _ _ _ _ (outOf 0 z)) = some (.own 0 false 42 4 (g.map (Cond.enc true)), [])) p.rules (atStep a o) id
    (fun i b => { sl := [(1, .int .i64 a), (2, .int .i64 o), (7, .own 0 false 42 4 (b.map (Cond.enc true))), (12, .sl fl (p.rules.map (Rule.enc fl))), (13, .int .i64 (p.rules.length : Nat)), (14, .int .i64 (i : Nat))], bx := [], nx := 1, nt := 28 })
    (fun i b => Leaves b ∧ b.length + wl Rule.w (p.rules.drop i) ≤ wl Rule.w p.rules) [] ?_ ?_ (by omega) ⟨leaves_nil, by simp⟩ ?_) ?_
  · intro b _
    simp -implicitDefEqProofs only [QS, QN, QG, QO, ZRS, ↓ZDS, ZRG, ↓ZDG, ZRO, ↓ZDO, SO, SH, evAppend, rowOf, noref, isRef, isPtr, noPtr, isBad, AV.isUndef, leaf_some, isNormal, ifEv_bool, gate_bool, gateP_bool, gateQ_bool, pick_bool, SN, evCutRow, Int.reduceToNat, id_eq, Int.reduceBEq, Int.reduceLE, Int.reduceLT, SS, one_ne2, num_ne2, TIS, MDS, AV.cells, AV.isCell, Value.cells, Nat.reduceAdd, Nat.reduceEqDiff, Nat.reduceLT, Nat.reduceLeDiff, Nat.reduceMul, Nat.reduceSub, reduceIte]
    repeat' (split <;> (rename_i h; (try simp -implicitDefEqProofs only [Bool.not_eq_true', Bool.not_eq_false', decide_eq_true_eq, decide_eq_false_iff_not] at h); (try simp -implicitDefEqProofs only [QS, QN, QG, QO, ZRS, ↓ZDS, ZRG, ↓ZDG, ZRO, ↓ZDO, *, SO, SH, evAppend, rowOf, noref, isRef, isPtr, noPtr, isBad, AV.isUndef, leaf_some, isNormal, ifEv_bool, gate_bool, gateP_bool, gateQ_bool, pick_bool, SN, evCutRow, Int.reduceToNat, id_eq, Int.reduceBEq, Int.reduceLE, Int.reduceLT, SS, one_ne2, num_ne2, TIS, MDS, AV.cells, AV.isCell, Value.cells, Nat.reduceAdd, Nat.reduceEqDiff, Nat.reduceLT, Nat.reduceLeDiff, Nat.reduceMul, Nat.reduceSub, reduceIte])))
  · intro pre c r b hs' ⟨hb1, hb2⟩
    have hx := (at_row hs' hs).1; have hc := (at_row hs' hs).2.1; have hlt := (at_row hs' hs).2.2.1; have hw1 := (at_row hs' hs).2.2.2.1; have hl9 := (at_row hs' hs).2.2.2.2
    have hd : p.rules.drop pre.length = c :: r := by rw [hs']; simp
    have hd1 : p.rules.drop (pre.length + 1) = r := by rw [hs']; simp
    have hg1 := gather_facts c.cond b
    have hw : c.w = c.cond.w := rfl
    rw [hd] at hb2
    simp -implicitDefEqProofs only [wl] at hb2
    have c3 := c1 c
    have c4 := c2 c hc b hb1 (by omega)
    have hI : Leaves (if isFor c a o = true then gather c.cond b else b) ∧ (if isFor c a o = true then gather c.cond b else b).length + wl Rule.w (p.rules.drop (pre.length + 1)) ≤ wl Rule.w p.rules := by
      rw [hd1]
      split
      · exact ⟨hg1.1 hb1, by have := hg1.2; omega⟩
      · exact ⟨hb1, by omega⟩
    have hst : atStep a o pre.length c b = .inr (if isFor c a o = true then gather c.cond b else b) := rfl
    clear hs' hd hd1 c1 c2
    have hs1 := scals_leaves hb1
    have hs2 := scals_leaves (hg1.1 hb1)
    cases e : isFor c a o <;> rw [e] at c3 hst hI <;> simp -implicitDefEqProofs only [Bool.false_eq_true, if_false, if_true] at hst hI
    all_goals
      simp -implicitDefEqProofs only [QS, QN, QG, QO, ZRS, ↓ZDS, ZRG, ↓ZDG, ZRO, ↓ZDO, enc_Rule, enc_Cond, hx, hlt, hw1, c3, c4, hs1, hs2, hst, evCall_rg, look_cons, reduceCtorEq, evCall_mutOwn, evCall_mutAgg, evGive, giveRows, ioBoxes, mutArgs, roArgs, handArg, mutSlots, isPtrB, pairs, pairss, back_nil, back_cons, backO, backE, setBoxes, importB, mode_mut, mode_give, mode_io, mode_ro, List.zip_cons_cons, List.zip_nil_left, List.zip_nil_right, ite_self, ite_true, ite_false, finish_give, finish_mut1, finish_io0, finish_io1, finish_io2, finish_io3, finish_ioc, finI, finC, finW_ptr, SO, SH, evAppend, rowOf, noref, isRef, isPtr, noPtr, isBad, AV.isUndef, keep_56_3, leaf_some, isNormal, ifEv_bool, gate_bool, gateP_bool, gateQ_bool, pick_bool, SN, evCutRow, Int.reduceToNat, id_eq, Int.reduceBEq, Int.reduceLE, Int.reduceLT, SS, one_ne2, num_ne2, TIS, MDS, AV.cells, AV.isCell, Value.cells, Nat.reduceAdd, Nat.reduceEqDiff, Nat.reduceLT, Nat.reduceLeDiff, Nat.reduceMul, Nat.reduceSub, reduceIte]
      repeat' (split <;> (rename_i h; (try simp -implicitDefEqProofs only [Bool.not_eq_true', Bool.not_eq_false', decide_eq_true_eq, decide_eq_false_iff_not] at h); (try simp -implicitDefEqProofs only [QS, QN, QG, QO, ZRS, ↓ZDS, ZRG, ↓ZDG, ZRO, ↓ZDO, *, enc_Rule, enc_Cond, hx, hlt, hw1, c3, c4, hs1, hs2, hst, evCall_rg, look_cons, reduceCtorEq, evCall_mutOwn, evCall_mutAgg, evGive, giveRows, ioBoxes, mutArgs, roArgs, handArg, mutSlots, isPtrB, pairs, pairss, back_nil, back_cons, backO, backE, setBoxes, importB, mode_mut, mode_give, mode_io, mode_ro, List.zip_cons_cons, List.zip_nil_left, List.zip_nil_right, ite_self, ite_true, ite_false, finish_give, finish_mut1, finish_io0, finish_io1, finish_io2, finish_io3, finish_ioc, finI, finC, finW_ptr, SO, SH, evAppend, rowOf, noref, isRef, isPtr, noPtr, isBad, AV.isUndef, keep_56_3, leaf_some, isNormal, ifEv_bool, gate_bool, gateP_bool, gateQ_bool, pick_bool, SN, evCutRow, Int.reduceToNat, id_eq, Int.reduceBEq, Int.reduceLE, Int.reduceLT, SS, one_ne2, num_ne2, TIS, MDS, AV.cells, AV.isCell, Value.cells, Nat.reduceAdd, Nat.reduceEqDiff, Nat.reduceLT, Nat.reduceLeDiff, Nat.reduceMul, Nat.reduceSub, reduceIte])))
      exact hI
  · simp -implicitDefEqProofs only [firstRegion]
    rw [keep_56_3]
    simp -implicitDefEqProofs only [QS, QN, QG, QO, ZRS, ↓ZDS, ZRG, ↓ZDG, ZRO, ↓ZDO, SN, evCutRow, Int.reduceToNat, id_eq, Int.reduceBEq, Int.reduceLE, Int.reduceLT, SO, SH, evAppend, rowOf, noref, isRef, isPtr, noPtr, isBad, AV.isUndef, SS, one_ne2, num_ne2, TIS, MDS, AV.cells, AV.isCell, Value.cells, Nat.reduceAdd, Nat.reduceEqDiff, Nat.reduceLT, Nat.reduceLeDiff, Nat.reduceMul, Nat.reduceSub, reduceIte]
  · rw [atLoop]
theorem r_spec_AtomsFor {fl : Bool} (k : Nat) (p : Policy) (hk : 290271069732864 + 4 * p.w + 30 ≤ k) (hp : p.w ≤ 1099511627776) (a o : Int) :
    run E noExt k 35 [p.enc fl, .int .i64 a, .int .i64 o] [] = some (.own 0 false 42 4 ((atomsOf p a o).map (Cond.enc true)), []) := by
  unfold Policy.w at hk hp
  have hs1 := wl_length Rule.w p.rules
  have hs : p.rules.length ≤ 140737488355328 := by omega
  have c1 := fun (c : Rule) => r_spec_IsFor (fl := fl) (k - 1) (by omega) c a o
  have c2 := fun (c : Rule) (hc : c ∈ p.rules) out ho hl => r_spec_l15Leaves0 (fl := fl) c.cond (k - 1) (by have := wl_mem (w := Rule.w) hc; have hw : c.w = c.cond.w := rfl; omega) (by have := wl_mem (w := Rule.w) hc; have hw : c.w = c.cond.w := rfl; omega) out ho hl
  unfold atomsOf
  obtain ⟨k, rfl⟩ : ∃ j, k = j + 1 := ⟨k - 1, by omega⟩
  rw [run_succ rfl rfl, body_eq (nt := 34) (fn := Go.Proofs.Try.f35) (by kernel_rfl) rfl rfl rfl rfl rfl rfl rfl rfl]
  simp -implicitDefEqProofs only [Nat.add_sub_cancel, enc_Cond, enc_Rule] at c1 c2
  simp -implicitDefEqProofs only [QS, QN, QO, ZRS, ↓ZDS, ZRO, ↓ZDO, Go.Proofs.Try.f35, enc_Policy, SO, SH, evAppend, rowOf, noref, isRef, isPtr, noPtr, isBad, AV.isUndef, dedup, nodupB, idx, AV.rows, AV.rowss, AV.mapO, AV.mapOs, SN, evCutRow, Int.reduceToNat, id_eq, Int.reduceBEq, Int.reduceLE, Int.reduceLT, SS, one_ne2, num_ne2, TIS, MDS, AV.cells, AV.isCell, Value.cells, Nat.reduceAdd, Nat.reduceEqDiff, Nat.reduceLT, Nat.reduceLeDiff, Nat.reduceMul, Nat.reduceSub, reduceIte]
  rw [ev_loop]
  refine Eq.trans (loop_list (Q := fun (g : List Cond) z => thenEnd E.P _ _ 0 (thenEv E _ _ _ _ _ (outOf 0 z)) = some (.own 0 false 42 4 (g.map (Cond.enc true)), [])) p.rules (atStep a o) id
    (fun i b => { sl := [(1, .int .i64 a), (2, .int .i64 o), (3, .ptr 0 0), (7, .own 0 false 42 4 (b.map (Cond.enc true))), (8, .int .i64 (i : Nat))], bx := [(0, [.int .i64 p.version, .sl fl (p.rules.map (Rule.enc fl))])], nx := 2, nt := 34 })
    (fun i b => Leaves b ∧ b.length + wl Rule.w (p.rules.drop i) ≤ wl Rule.w p.rules) [] ?_ ?_ (by omega) ⟨leaves_nil, by simp⟩ ?_) ?_
  · intro b _
    simp -implicitDefEqProofs only [QS, QN, QG, QO, ZRS, ↓ZDS, ZRG, ↓ZDG, ZRO, ↓ZDO, SO, SH, evAppend, rowOf, noref, isRef, isPtr, noPtr, isBad, AV.isUndef, leaf_some, isNormal, ifEv_bool, gate_bool, gateP_bool, gateQ_bool, pick_bool, SN, evCutRow, Int.reduceToNat, id_eq, Int.reduceBEq, Int.reduceLE, Int.reduceLT, SS, one_ne2, num_ne2, TIS, MDS, AV.cells, AV.isCell, Value.cells, Nat.reduceAdd, Nat.reduceEqDiff, Nat.reduceLT, Nat.reduceLeDiff, Nat.reduceMul, Nat.reduceSub, reduceIte]
    repeat' (split <;> (rename_i h; (try simp -implicitDefEqProofs only [Bool.not_eq_true', Bool.not_eq_false', decide_eq_true_eq, decide_eq_false_iff_not] at h); (try simp -implicitDefEqProofs only [QS, QN, QG, QO, ZRS, ↓ZDS, ZRG, ↓ZDG, ZRO, ↓ZDO, *, SO, SH, evAppend, rowOf, noref, isRef, isPtr, noPtr, isBad, AV.isUndef, leaf_some, isNormal, ifEv_bool, gate_bool, gateP_bool, gateQ_bool, pick_bool, SN, evCutRow, Int.reduceToNat, id_eq, Int.reduceBEq, Int.reduceLE, Int.reduceLT, SS, one_ne2, num_ne2, TIS, MDS, AV.cells, AV.isCell, Value.cells, Nat.reduceAdd, Nat.reduceEqDiff, Nat.reduceLT, Nat.reduceLeDiff, Nat.reduceMul, Nat.reduceSub, reduceIte])))
  · intro pre c r b hs' ⟨hb1, hb2⟩
    have hx := (at_row hs' hs).1; have hc := (at_row hs' hs).2.1; have hlt := (at_row hs' hs).2.2.1; have hw1 := (at_row hs' hs).2.2.2.1; have hl9 := (at_row hs' hs).2.2.2.2
    have hd : p.rules.drop pre.length = c :: r := by rw [hs']; simp
    have hd1 : p.rules.drop (pre.length + 1) = r := by rw [hs']; simp
    have hg1 := gather_facts c.cond b
    have hw : c.w = c.cond.w := rfl
    rw [hd] at hb2
    simp -implicitDefEqProofs only [wl] at hb2
    have c3 := c1 c
    have c4 := c2 c hc b hb1 (by omega)
    have hI : Leaves (if isFor c a o = true then gather c.cond b else b) ∧ (if isFor c a o = true then gather c.cond b else b).length + wl Rule.w (p.rules.drop (pre.length + 1)) ≤ wl Rule.w p.rules := by
      rw [hd1]
      split
      · exact ⟨hg1.1 hb1, by have := hg1.2; omega⟩
      · exact ⟨hb1, by omega⟩
    have hst : atStep a o pre.length c b = .inr (if isFor c a o = true then gather c.cond b else b) := rfl
    clear hs' hd hd1 c1 c2
    have hs1 := scals_leaves hb1
    have hs2 := scals_leaves (hg1.1 hb1)
    cases e : isFor c a o <;> rw [e] at c3 hst hI <;> simp -implicitDefEqProofs only [Bool.false_eq_true, if_false, if_true] at hst hI
    all_goals
      simp -implicitDefEqProofs only [QS, QN, QG, QO, ZRS, ↓ZDS, ZRG, ↓ZDG, ZRO, ↓ZDO, enc_Rule, enc_Cond, hx, hlt, hw1, c3, c4, hs1, hs2, hst, evCall_gr, look_cons, reduceCtorEq, evCall_mutOwn, evCall_mutAgg, evGive, giveRows, ioBoxes, mutArgs, roArgs, handArg, mutSlots, isPtrB, pairs, pairss, back_nil, back_cons, backO, backE, setBoxes, importB, mode_mut, mode_give, mode_io, mode_ro, List.zip_cons_cons, List.zip_nil_left, List.zip_nil_right, ite_self, ite_true, ite_false, finish_give, finish_mut1, finish_io0, finish_io1, finish_io2, finish_io3, finish_ioc, finI, finC, finW_ptr, SO, SH, evAppend, rowOf, noref, isRef, isPtr, noPtr, isBad, AV.isUndef, keep_35_3, leaf_some, isNormal, ifEv_bool, gate_bool, gateP_bool, gateQ_bool, pick_bool, SN, evCutRow, Int.reduceToNat, id_eq, Int.reduceBEq, Int.reduceLE, Int.reduceLT, SS, one_ne2, num_ne2, TIS, MDS, AV.cells, AV.isCell, Value.cells, Nat.reduceAdd, Nat.reduceEqDiff, Nat.reduceLT, Nat.reduceLeDiff, Nat.reduceMul, Nat.reduceSub, reduceIte]
      repeat' (split <;> (rename_i h; (try simp -implicitDefEqProofs only [Bool.not_eq_true', Bool.not_eq_false', decide_eq_true_eq, decide_eq_false_iff_not] at h); (try simp -implicitDefEqProofs only [QS, QN, QG, QO, ZRS, ↓ZDS, ZRG, ↓ZDG, ZRO, ↓ZDO, *, enc_Rule, enc_Cond, hx, hlt, hw1, c3, c4, hs1, hs2, hst, evCall_gr, look_cons, reduceCtorEq, evCall_mutOwn, evCall_mutAgg, evGive, giveRows, ioBoxes, mutArgs, roArgs, handArg, mutSlots, isPtrB, pairs, pairss, back_nil, back_cons, backO, backE, setBoxes, importB, mode_mut, mode_give, mode_io, mode_ro, List.zip_cons_cons, List.zip_nil_left, List.zip_nil_right, ite_self, ite_true, ite_false, finish_give, finish_mut1, finish_io0, finish_io1, finish_io2, finish_io3, finish_ioc, finI, finC, finW_ptr, SO, SH, evAppend, rowOf, noref, isRef, isPtr, noPtr, isBad, AV.isUndef, keep_35_3, leaf_some, isNormal, ifEv_bool, gate_bool, gateP_bool, gateQ_bool, pick_bool, SN, evCutRow, Int.reduceToNat, id_eq, Int.reduceBEq, Int.reduceLE, Int.reduceLT, SS, one_ne2, num_ne2, TIS, MDS, AV.cells, AV.isCell, Value.cells, Nat.reduceAdd, Nat.reduceEqDiff, Nat.reduceLT, Nat.reduceLeDiff, Nat.reduceMul, Nat.reduceSub, reduceIte])))
      exact hI
  · simp -implicitDefEqProofs only [firstRegion]
    rw [keep_35_3]
    simp -implicitDefEqProofs only [QS, QN, QG, QO, ZRS, ↓ZDS, ZRG, ↓ZDG, ZRO, ↓ZDO, SN, evCutRow, Int.reduceToNat, id_eq, Int.reduceBEq, Int.reduceLE, Int.reduceLT, SO, SH, evAppend, rowOf, noref, isRef, isPtr, noPtr, isBad, AV.isUndef, SS, one_ne2, num_ne2, TIS, MDS, AV.cells, AV.isCell, Value.cells, Nat.reduceAdd, Nat.reduceEqDiff, Nat.reduceLT, Nat.reduceLeDiff, Nat.reduceMul, Nat.reduceSub, reduceIte]
  · rw [atLoop]
end Go.Proofs.Ytkadcnfpjppdbaa.Flat
namespace Go.Proofs.Ytkadcnfpjppdbaa.Flat
theorem range_at {n : Nat} {pre r : List Nat} {x : Nat} (h : List.range n = pre ++ x :: r) : x = pre.length ∧ pre.length < n := by
  have h1 : (List.range n)[pre.length]? = some x := by rw [h]; simp
  obtain ⟨h2, h3⟩ := List.getElem?_eq_some_iff.1 h1
  rw [List.getElem_range] at h3
  simp at h2
  exact ⟨h3.symm, h2⟩
end Go.Proofs.Ytkadcnfpjppdbaa.Flat
