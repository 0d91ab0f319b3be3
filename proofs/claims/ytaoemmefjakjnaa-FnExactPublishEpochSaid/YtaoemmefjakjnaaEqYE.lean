/-
Marks in epochs.
-/
import Derived.Test.YtaoemmefjakjnaaEqYN
import Derived.Test.YtaoemmefjakjnaaEqCE
set_option linter.unusedVariables false
set_option linter.unusedSimpArgs false
set_option maxRecDepth 10000
namespace Go.Proofs.Ytaoemmefjakjnaa.Flat
def epMk (z : Int) (e : Epoch) : Epoch := ⟨z, z + 1, marks_Includes (z + 2) e.pairs.length, ⟨z + 2 + ((2 * e.pairs.length : Nat) : Int), mksG ruleMk ruleW (z + 2 + ((2 * e.pairs.length : Nat) : Int) + 1) e.policy.rules⟩⟩
def epW (e : Epoch) : Nat := 3 + 2 * e.pairs.length + sumG ruleW e.policy.rules
theorem sum_epoch (s : List Epoch) : sumG epW s ≤ 3 * s.length + 6 * wl Epoch.w s := by
  induction s with
  | nil => simp [sumG, wl]
  | cons c r ih =>
    have := sum_rule c.policy.rules
    simp -implicitDefEqProofs only [sumG, wl, epW, Epoch.w, Policy.w, List.length_cons] at *
    omega
theorem sum_epoch_len (s : List Epoch) : s.length ≤ sumG epW s := by
  induction s with
  | nil => simp [sumG]
  | cons c r ih => simp -implicitDefEqProofs only [sumG, epW, List.length_cons]; omega
theorem enc_mkE (fl : Bool) (z : Int) (e : Epoch) : (epMk z e).enc fl = .agg [.int .i64 z, .int .i64 (z + 1), .sl fl ((marks_Includes (z + 2) e.pairs.length).map (Includes.enc fl)), .int .i64 (z + 2 + ((2 * e.pairs.length : Nat) : Int)), .sl fl ((mksG ruleMk ruleW (z + 2 + ((2 * e.pairs.length : Nat) : Int) + 1) e.policy.rules).map (Rule.enc fl))] := rfl
theorem mk_r_laws_markEpochS (z : Int) (e : Epoch) : Epoch.tenc (epMk z e) = .agg [.int .i64 z, .int .i64 (z + 1), .tr 79 2 ((marks_Includes (z + 2) e.pairs.length).map (Includes.enc true)), .int .i64 (z + 2 + ((2 * e.pairs.length : Nat) : Int)), .tr 86 7 ((mksG ruleMk ruleW (z + 2 + ((2 * e.pairs.length : Nat) : Int) + 1) e.policy.rules).map Rule.tenc)] := rfl
theorem cells_r_laws_markEpochS (e : Epoch) : Epoch.tenc e = .agg [.int .i64 e.number, .int .i64 e.at_, .tr 79 2 (e.pairs.map (Includes.enc true)), .int .i64 e.policy.version, .tr 86 7 (e.policy.rules.map Rule.tenc)] := rfl
theorem r_laws_markEpochS (k : Nat) (s : List Epoch) (hk : 281474976710656 + 4 * wl Epoch.w s + 4 ≤ k) (z : Int) (hz : 0 ≤ z ∧ z + (sumG epW s : Nat) ≤ 1099511627776) :
    run E noExt k 24 [.own 0 false 39 5 (s.map Epoch.tenc), .int .i64 z] [] = some (.int .i64 (z + ((sumG epW s : Nat) : Int)), [[.own 0 false 39 5 ((mksG epMk epW z s).map Epoch.tenc)]]) := by
  have hsl := sum_epoch_len s
  have hs : s.length ≤ 140737488355328 := by omega
  have c1 := fun (xs : List Includes) (h : xs.length ≤ 1099511627776) y hy => r_laws_markIncludesS (k - 1) (by omega) xs h y hy
  have c4 := fun (x : Epoch) (hx : x ∈ s) y hy => r_laws_markRuleS (k - 1) x.policy.rules (by have := wl_mem (w := Epoch.w) hx; have hw : x.w = x.pairs.length + wl Rule.w x.policy.rules := rfl; omega) y hy
  obtain ⟨k, rfl⟩ : ∃ j, k = j + 1 := ⟨k - 1, by omega⟩
  rw [run_succ rfl rfl, body_eq (nt := 50) (fn := Go.Proofs.Try.f24) (by kernel_rfl) rfl rfl rfl rfl rfl rfl rfl rfl]
  simp -implicitDefEqProofs only [Nat.add_sub_cancel] at c1 c4
  simp -implicitDefEqProofs only [QS, QN, QO, Go.Proofs.Try.f24, SO, SH, frzO, frzE, AV.laid, AV.treeV, AV.treeC, St.laid, spent, AV.subs, AV.shut, AV.scal, AV.scals, evBuildSlice, elemsOf, zeroOK, evAppend, rowOf, noref, isRef, small, import_, AV.any, AV.anys, isPtr, finV, rename, noPtr, isBad, AV.isUndef, St.setRow, AV.shutV, rebuild, isAggV, evBuild, fillCells, evCutOwn, dedup, nodupB, idx, AV.rows, AV.rowss, AV.mapO, AV.mapOs, SN, evCutRow, Int.reduceToNat, id_eq, Int.reduceBEq, Int.reduceLE, Int.reduceLT, SS, one_ne2, num_ne2, TIS, MDS, wanted, numbered, plainC, plainS, evEq, eqK, evBox, evAlloc, evStore, evLoad, evFieldAddr, behind, takeVal, AV.cells, AV.isCell, ofCells, ofCell, Value.cells, Nat.reduceAdd, Nat.reduceEqDiff, Nat.reduceLT, Nat.reduceLeDiff, Nat.reduceMul, Nat.reduceSub, reduceIte]
  rw [ev_loop]
  refine Eq.trans (loop_list (Q := fun (_ : Unit) x => thenEnd E.P _ _ 0 (thenEv E _ _ _ _ _ (outOf 0 x)) = some (.int .i64 (z + ((sumG epW s : Nat) : Int)), [[.own 0 false 39 5 ((mksG epMk epW z s).map Epoch.tenc)]])) s (fun _ _ _ => .inr ()) id
    (fun i _ => { sl := [(0, .own 0 false 39 5 (Rat epMk epW Epoch.tenc z s i)), (1, .int .i64 (Zat epW z s i)), (5, .int .i64 (i : Nat))], bx := [], nx := 1, nt := 50 }) (fun _ _ => True) () ?_ ?_ (by omega) trivial ?_) ?_
  · intro _ _
    simp -implicitDefEqProofs only [QS, QN, QG, QO, Rat_len, SO, SH, frzO, frzE, AV.laid, AV.treeV, AV.treeC, St.laid, spent, AV.subs, AV.shut, AV.scal, AV.scals, evBuildSlice, elemsOf, zeroOK, evAppend, rowOf, noref, isRef, small, import_, AV.any, AV.anys, isPtr, finV, rename, noPtr, isBad, AV.isUndef, St.setRow, AV.shutV, rebuild, isAggV, evBuild, fillCells, evCutOwn, dedup, nodupB, idx, AV.rows, AV.rowss, AV.mapO, AV.mapOs, firstRegion, gc, keptBoxes, keptRows, renameB, AV.boxes, AV.boxess, leaf_some, isNormal, ifEv_bool, gate_bool, gateP_bool, gateQ_bool, pick_bool, SN, evCutRow, Int.reduceToNat, id_eq, Int.reduceBEq, Int.reduceLE, Int.reduceLT, SS, one_ne2, num_ne2, TIS, MDS, wanted, numbered, plainC, plainS, evEq, eqK, evBox, evAlloc, evStore, evLoad, evFieldAddr, behind, takeVal, AV.cells, AV.isCell, ofCells, ofCell, Value.cells, Nat.reduceAdd, Nat.reduceEqDiff, Nat.reduceLT, Nat.reduceLeDiff, Nat.reduceMul, Nat.reduceSub, reduceIte]
    repeat' (split <;> (rename_i h; (try simp -implicitDefEqProofs only [Bool.not_eq_true', Bool.not_eq_false', decide_eq_true_eq, decide_eq_false_iff_not] at h); (try simp -implicitDefEqProofs only [QS, QN, QG, QO, *, Rat_len, SO, SH, frzO, frzE, AV.laid, AV.treeV, AV.treeC, St.laid, spent, AV.subs, AV.shut, AV.scal, AV.scals, evBuildSlice, elemsOf, zeroOK, evAppend, rowOf, noref, isRef, small, import_, AV.any, AV.anys, isPtr, finV, rename, noPtr, isBad, AV.isUndef, St.setRow, AV.shutV, rebuild, isAggV, evBuild, fillCells, evCutOwn, dedup, nodupB, idx, AV.rows, AV.rowss, AV.mapO, AV.mapOs, firstRegion, gc, keptBoxes, keptRows, renameB, AV.boxes, AV.boxess, leaf_some, isNormal, ifEv_bool, gate_bool, gateP_bool, gateQ_bool, pick_bool, SN, evCutRow, Int.reduceToNat, id_eq, Int.reduceBEq, Int.reduceLE, Int.reduceLT, SS, one_ne2, num_ne2, TIS, MDS, wanted, numbered, plainC, plainS, evEq, eqK, evBox, evAlloc, evStore, evLoad, evFieldAddr, behind, takeVal, AV.cells, AV.isCell, ofCells, ofCell, Value.cells, Nat.reduceAdd, Nat.reduceEqDiff, Nat.reduceLT, Nat.reduceLeDiff, Nat.reduceMul, Nat.reduceSub, reduceIte])))
    rw [finish_mut1 rfl]
    simp -implicitDefEqProofs only [QS, QN, QG, QO, finC, Rat_end, Zat_end, SN, evCutRow, Int.reduceToNat, id_eq, Int.reduceBEq, Int.reduceLE, Int.reduceLT, SO, SH, frzO, frzE, AV.laid, AV.treeV, AV.treeC, St.laid, spent, AV.subs, AV.shut, AV.scal, AV.scals, evBuildSlice, elemsOf, zeroOK, evAppend, rowOf, noref, isRef, small, import_, AV.any, AV.anys, isPtr, finV, rename, noPtr, isBad, AV.isUndef, St.setRow, AV.shutV, rebuild, isAggV, evBuild, fillCells, evCutOwn, dedup, nodupB, idx, AV.rows, AV.rowss, AV.mapO, AV.mapOs, firstRegion, gc, keptBoxes, keptRows, renameB, AV.boxes, AV.boxess, SS, one_ne2, num_ne2, TIS, MDS, wanted, numbered, plainC, plainS, evEq, eqK, evBox, evAlloc, evStore, evLoad, evFieldAddr, behind, takeVal, AV.cells, AV.isCell, ofCells, ofCell, Value.cells, Nat.reduceAdd, Nat.reduceEqDiff, Nat.reduceLT, Nat.reduceLeDiff, Nat.reduceMul, Nat.reduceSub, reduceIte]
  · intro pre x r b hs' _
    have hx := (at_row hs' hs).1; have hc := (at_row hs' hs).2.1; have hlt := (at_row hs' hs).2.2.1; have hw1 := (at_row hs' hs).2.2.2.1; have hl9 := (at_row hs' hs).2.2.2.2
    have hat := Rat_at (M := epMk) (W := epW) (T := Epoch.tenc) (z := z) hs'
    have hset := Rat_set (M := epMk) (W := epW) (T := Epoch.tenc) (z := z) hs'
    have hlen := Rat_len epMk epW Epoch.tenc z s pre.length
    have hsucc := Zat_succ (W := epW) (z := z) hs'
    have hle := Zat_le (W := epW) (z := z) (s := s) (i := pre.length)
    have hle1 := Zat_le (W := epW) (z := z) (s := s) (i := pre.length + 1)
    clear hs'
    rw [hsucc] at hle1
    rw [show epW x = 3 + 2 * x.pairs.length + sumG ruleW x.policy.rules from rfl] at hsucc hle1
    have c2 := c1 x.pairs (by omega) (Zat epW z s pre.length + 2) (by omega)
    have c3 := c4 x hc (Zat epW z s pre.length + 2 + ((2 * x.pairs.length : Nat) : Int) + 1) (by omega)
    generalize Zat epW z s pre.length = Z at *
    have hw2 : IntKind.i64.wrap (Z + 1) = Z + 1 := IntWalk.i64_in _ (by omega)
    have hw3 : IntKind.i64.wrap (Z + 1 + 1) = Z + 2 := by rw [IntWalk.i64_in _ (by omega)]; omega
    have hw4 : IntKind.i64.wrap (Z + 2 + ((2 * x.pairs.length : Nat) : Int) + 1) = Z + 2 + ((2 * x.pairs.length : Nat) : Int) + 1 := IntWalk.i64_in _ (by omega)
    have hsc1 := tscals_Includes (marks_Includes (Z + 2) x.pairs.length)
    have hsc2 := tscals_Rule (mksG ruleMk ruleW (Z + 2 + ((2 * x.pairs.length : Nat) : Int) + 1) x.policy.rules)
    have hfin : Z + 2 + ((2 * x.pairs.length : Nat) : Int) + 1 + ((sumG ruleW x.policy.rules : Nat) : Int) = Zat epW z s (pre.length + 1) := by rw [hsucc]; omega
    rw [hfin] at c3
    rw [mk_r_laws_markEpochS] at hset
    rw [cells_r_laws_markEpochS] at hat
    generalize Rat epMk epW Epoch.tenc z s pre.length = b at *
    have hl2 : ((pre.length : Nat) : Int) < ((b.length : Nat) : Int) := by omega
    have hg : ∀ v : AV, (b.set pre.length v)[pre.length]? = some v := fun v => List.getElem?_set_self (by omega)
    have hg2 : ∀ cs, (b.set pre.length (.agg cs))[pre.length]? = some (.agg cs) := fun v => List.getElem?_set_self (by omega)
    generalize hZ2 : Z + 2 + ((2 * x.pairs.length : Nat) : Int) = Z2 at *
    have h4 := fun ros dst st => evSub_row (Φ := run E noExt k) (n := 25) (id := 0) (xs := b.set pre.length (.agg [.int .i64 Z, .int .i64 (Z + 1), .tr 79 2 (x.pairs.map (Includes.enc true)), .int .i64 x.policy.version, .tr 86 7 (x.policy.rules.map Rule.tenc)])) (i := pre.length) (k := 2) (ros := ros) (dst := dst) (st := st) (hg2 _) rfl
    have h5 := fun ros dst st => evSub_row (Φ := run E noExt k) (n := 26) (id := 0) (xs := b.set pre.length (.agg [.int .i64 Z, .int .i64 (Z + 1), .tr 79 2 ((marks_Includes (Z + 2) x.pairs.length).map (Includes.enc true)), .int .i64 Z2, .tr 86 7 (x.policy.rules.map Rule.tenc)])) (i := pre.length) (k := 4) (ros := ros) (dst := dst) (st := st) (hg2 _) rfl
    simp -implicitDefEqProofs only [QS, QN, QG, QO, hlt, hl2, hw1, hw2, hw3, hw4, hat, hg, hsc1, hsc2, hset, evCall_sub, h4, h5, c2, c3, subOut_some, isScal, List.set_set, List.length_set, List.set_cons_succ, List.set_cons_zero, look_cons, reduceCtorEq, evCall_mutOwn, evCall_mutAgg, evGive, giveRows, ioBoxes, mutArgs, roArgs, handArg, mutSlots, isPtrB, pairs, pairss, back_nil, back_cons, backO, backE, setBoxes, importB, mode_mut, mode_give, mode_io, mode_ro, List.zip_cons_cons, List.zip_nil_left, List.zip_nil_right, ite_self, ite_true, ite_false, finish_give, finish_mut1, finish_io0, finish_io1, finish_io2, finish_io3, finish_ioc, finI, finC, finW_ptr, SO, SH, frzO, frzE, AV.laid, AV.treeV, AV.treeC, St.laid, spent, AV.subs, AV.shut, AV.scal, AV.scals, evBuildSlice, elemsOf, zeroOK, evAppend, rowOf, noref, isRef, small, import_, AV.any, AV.anys, isPtr, finV, rename, noPtr, isBad, AV.isUndef, St.setRow, AV.shutV, rebuild, isAggV, evBuild, fillCells, evCutOwn, dedup, nodupB, idx, AV.rows, AV.rowss, AV.mapO, AV.mapOs, firstRegion, gc, keptBoxes, keptRows, renameB, AV.boxes, AV.boxess, keep_24_2, leaf_some, isNormal, ifEv_bool, gate_bool, gateP_bool, gateQ_bool, pick_bool, SN, evCutRow, Int.reduceToNat, id_eq, Int.reduceBEq, Int.reduceLE, Int.reduceLT, SS, one_ne2, num_ne2, TIS, MDS, wanted, numbered, plainC, plainS, evEq, eqK, evBox, evAlloc, evStore, evLoad, evFieldAddr, behind, takeVal, AV.cells, AV.isCell, ofCells, ofCell, Value.cells, Nat.reduceAdd, Nat.reduceEqDiff, Nat.reduceLT, Nat.reduceLeDiff, Nat.reduceMul, Nat.reduceSub, reduceIte]
    repeat' (split <;> (rename_i h; (try simp -implicitDefEqProofs only [Bool.not_eq_true', Bool.not_eq_false', decide_eq_true_eq, decide_eq_false_iff_not] at h); (try simp -implicitDefEqProofs only [QS, QN, QG, QO, *, hlt, hl2, hw1, hw2, hw3, hw4, hat, hg, hsc1, hsc2, hset, evCall_sub, h4, h5, c2, c3, subOut_some, isScal, List.set_set, List.length_set, List.set_cons_succ, List.set_cons_zero, look_cons, reduceCtorEq, evCall_mutOwn, evCall_mutAgg, evGive, giveRows, ioBoxes, mutArgs, roArgs, handArg, mutSlots, isPtrB, pairs, pairss, back_nil, back_cons, backO, backE, setBoxes, importB, mode_mut, mode_give, mode_io, mode_ro, List.zip_cons_cons, List.zip_nil_left, List.zip_nil_right, ite_self, ite_true, ite_false, finish_give, finish_mut1, finish_io0, finish_io1, finish_io2, finish_io3, finish_ioc, finI, finC, finW_ptr, SO, SH, frzO, frzE, AV.laid, AV.treeV, AV.treeC, St.laid, spent, AV.subs, AV.shut, AV.scal, AV.scals, evBuildSlice, elemsOf, zeroOK, evAppend, rowOf, noref, isRef, small, import_, AV.any, AV.anys, isPtr, finV, rename, noPtr, isBad, AV.isUndef, St.setRow, AV.shutV, rebuild, isAggV, evBuild, fillCells, evCutOwn, dedup, nodupB, idx, AV.rows, AV.rowss, AV.mapO, AV.mapOs, firstRegion, gc, keptBoxes, keptRows, renameB, AV.boxes, AV.boxess, keep_24_2, leaf_some, isNormal, ifEv_bool, gate_bool, gateP_bool, gateQ_bool, pick_bool, SN, evCutRow, Int.reduceToNat, id_eq, Int.reduceBEq, Int.reduceLE, Int.reduceLT, SS, one_ne2, num_ne2, TIS, MDS, wanted, numbered, plainC, plainS, evEq, eqK, evBox, evAlloc, evStore, evLoad, evFieldAddr, behind, takeVal, AV.cells, AV.isCell, ofCells, ofCell, Value.cells, Nat.reduceAdd, Nat.reduceEqDiff, Nat.reduceLT, Nat.reduceLeDiff, Nat.reduceMul, Nat.reduceSub, reduceIte])))
  · simp -implicitDefEqProofs only [firstRegion]
    rw [keep_24_2]
    simp -implicitDefEqProofs only [QS, QN, QG, QO, Rat_zero, Zat_zero, SN, evCutRow, Int.reduceToNat, id_eq, Int.reduceBEq, Int.reduceLE, Int.reduceLT, SO, SH, frzO, frzE, AV.laid, AV.treeV, AV.treeC, St.laid, spent, AV.subs, AV.shut, AV.scal, AV.scals, evBuildSlice, elemsOf, zeroOK, evAppend, rowOf, noref, isRef, small, import_, AV.any, AV.anys, isPtr, finV, rename, noPtr, isBad, AV.isUndef, St.setRow, AV.shutV, rebuild, isAggV, evBuild, fillCells, evCutOwn, dedup, nodupB, idx, AV.rows, AV.rowss, AV.mapO, AV.mapOs, firstRegion, gc, keptBoxes, keptRows, renameB, AV.boxes, AV.boxess, SS, one_ne2, num_ne2, TIS, MDS, wanted, numbered, plainC, plainS, evEq, eqK, evBox, evAlloc, evStore, evLoad, evFieldAddr, behind, takeVal, AV.cells, AV.isCell, ofCells, ofCell, Value.cells, Nat.reduceAdd, Nat.reduceEqDiff, Nat.reduceLT, Nat.reduceLeDiff, Nat.reduceMul, Nat.reduceSub, reduceIte]
  · rfl
theorem mk_r_laws_markEpochSN (z : Int) (e : Epoch) : Epoch.tencI (epMk z e) = .agg [.int .i64 z, .int .i64 (z + 1), .tr 79 2 ((marks_Includes (z + 2) e.pairs.length).map (Includes.enc true)), .int .i64 (z + 2 + ((2 * e.pairs.length : Nat) : Int)), .tr 86 7 ((mksG ruleMk ruleW (z + 2 + ((2 * e.pairs.length : Nat) : Int) + 1) e.policy.rules).map Rule.tencN)] := rfl
theorem cells_r_laws_markEpochSN (e : Epoch) : Epoch.tencI e = .agg [.int .i64 e.number, .int .i64 e.at_, .tr 79 2 (e.pairs.map (Includes.enc true)), .int .i64 e.policy.version, .tr 86 7 (e.policy.rules.map Rule.tencN)] := rfl
theorem r_laws_markEpochSN (k : Nat) (s : List Epoch) (hk : 281474976710656 + 4 * wl Epoch.w s + 4 ≤ k) (z : Int) (hz : 0 ≤ z ∧ z + (sumG epW s : Nat) ≤ 1099511627776) :
    run E noExt k 24 [.own 0 false 39 5 (s.map Epoch.tencI), .int .i64 z] [] = some (.int .i64 (z + ((sumG epW s : Nat) : Int)), [[.own 0 false 39 5 ((mksG epMk epW z s).map Epoch.tencI)]]) := by
  have hsl := sum_epoch_len s
  have hs : s.length ≤ 140737488355328 := by omega
  have c1 := fun (xs : List Includes) (h : xs.length ≤ 1099511627776) y hy => r_laws_markIncludesS (k - 1) (by omega) xs h y hy
  have c4 := fun (x : Epoch) (hx : x ∈ s) y hy => r_laws_markRuleSN (k - 1) x.policy.rules (by have := wl_mem (w := Epoch.w) hx; have hw : x.w = x.pairs.length + wl Rule.w x.policy.rules := rfl; omega) y hy
  obtain ⟨k, rfl⟩ : ∃ j, k = j + 1 := ⟨k - 1, by omega⟩
  rw [run_succ rfl rfl, body_eq (nt := 50) (fn := Go.Proofs.Try.f24) (by kernel_rfl) rfl rfl rfl rfl rfl rfl rfl rfl]
  simp -implicitDefEqProofs only [Nat.add_sub_cancel] at c1 c4
  simp -implicitDefEqProofs only [QS, QN, QO, Go.Proofs.Try.f24, SO, SH, frzO, frzE, AV.laid, AV.treeV, AV.treeC, St.laid, spent, AV.subs, AV.shut, AV.scal, AV.scals, evBuildSlice, elemsOf, zeroOK, evAppend, rowOf, noref, isRef, small, import_, AV.any, AV.anys, isPtr, finV, rename, noPtr, isBad, AV.isUndef, St.setRow, AV.shutV, rebuild, isAggV, evBuild, fillCells, evCutOwn, dedup, nodupB, idx, AV.rows, AV.rowss, AV.mapO, AV.mapOs, SN, evCutRow, Int.reduceToNat, id_eq, Int.reduceBEq, Int.reduceLE, Int.reduceLT, SS, one_ne2, num_ne2, TIS, MDS, wanted, numbered, plainC, plainS, evEq, eqK, evBox, evAlloc, evStore, evLoad, evFieldAddr, behind, takeVal, AV.cells, AV.isCell, ofCells, ofCell, Value.cells, Nat.reduceAdd, Nat.reduceEqDiff, Nat.reduceLT, Nat.reduceLeDiff, Nat.reduceMul, Nat.reduceSub, reduceIte]
  rw [ev_loop]
  refine Eq.trans (loop_list (Q := fun (_ : Unit) x => thenEnd E.P _ _ 0 (thenEv E _ _ _ _ _ (outOf 0 x)) = some (.int .i64 (z + ((sumG epW s : Nat) : Int)), [[.own 0 false 39 5 ((mksG epMk epW z s).map Epoch.tencI)]])) s (fun _ _ _ => .inr ()) id
    (fun i _ => { sl := [(0, .own 0 false 39 5 (Rat epMk epW Epoch.tencI z s i)), (1, .int .i64 (Zat epW z s i)), (5, .int .i64 (i : Nat))], bx := [], nx := 1, nt := 50 }) (fun _ _ => True) () ?_ ?_ (by omega) trivial ?_) ?_
  · intro _ _
    simp -implicitDefEqProofs only [QS, QN, QG, QO, Rat_len, SO, SH, frzO, frzE, AV.laid, AV.treeV, AV.treeC, St.laid, spent, AV.subs, AV.shut, AV.scal, AV.scals, evBuildSlice, elemsOf, zeroOK, evAppend, rowOf, noref, isRef, small, import_, AV.any, AV.anys, isPtr, finV, rename, noPtr, isBad, AV.isUndef, St.setRow, AV.shutV, rebuild, isAggV, evBuild, fillCells, evCutOwn, dedup, nodupB, idx, AV.rows, AV.rowss, AV.mapO, AV.mapOs, firstRegion, gc, keptBoxes, keptRows, renameB, AV.boxes, AV.boxess, leaf_some, isNormal, ifEv_bool, gate_bool, gateP_bool, gateQ_bool, pick_bool, SN, evCutRow, Int.reduceToNat, id_eq, Int.reduceBEq, Int.reduceLE, Int.reduceLT, SS, one_ne2, num_ne2, TIS, MDS, wanted, numbered, plainC, plainS, evEq, eqK, evBox, evAlloc, evStore, evLoad, evFieldAddr, behind, takeVal, AV.cells, AV.isCell, ofCells, ofCell, Value.cells, Nat.reduceAdd, Nat.reduceEqDiff, Nat.reduceLT, Nat.reduceLeDiff, Nat.reduceMul, Nat.reduceSub, reduceIte]
    repeat' (split <;> (rename_i h; (try simp -implicitDefEqProofs only [Bool.not_eq_true', Bool.not_eq_false', decide_eq_true_eq, decide_eq_false_iff_not] at h); (try simp -implicitDefEqProofs only [QS, QN, QG, QO, *, Rat_len, SO, SH, frzO, frzE, AV.laid, AV.treeV, AV.treeC, St.laid, spent, AV.subs, AV.shut, AV.scal, AV.scals, evBuildSlice, elemsOf, zeroOK, evAppend, rowOf, noref, isRef, small, import_, AV.any, AV.anys, isPtr, finV, rename, noPtr, isBad, AV.isUndef, St.setRow, AV.shutV, rebuild, isAggV, evBuild, fillCells, evCutOwn, dedup, nodupB, idx, AV.rows, AV.rowss, AV.mapO, AV.mapOs, firstRegion, gc, keptBoxes, keptRows, renameB, AV.boxes, AV.boxess, leaf_some, isNormal, ifEv_bool, gate_bool, gateP_bool, gateQ_bool, pick_bool, SN, evCutRow, Int.reduceToNat, id_eq, Int.reduceBEq, Int.reduceLE, Int.reduceLT, SS, one_ne2, num_ne2, TIS, MDS, wanted, numbered, plainC, plainS, evEq, eqK, evBox, evAlloc, evStore, evLoad, evFieldAddr, behind, takeVal, AV.cells, AV.isCell, ofCells, ofCell, Value.cells, Nat.reduceAdd, Nat.reduceEqDiff, Nat.reduceLT, Nat.reduceLeDiff, Nat.reduceMul, Nat.reduceSub, reduceIte])))
    rw [finish_mut1 rfl]
    simp -implicitDefEqProofs only [QS, QN, QG, QO, finC, Rat_end, Zat_end, SN, evCutRow, Int.reduceToNat, id_eq, Int.reduceBEq, Int.reduceLE, Int.reduceLT, SO, SH, frzO, frzE, AV.laid, AV.treeV, AV.treeC, St.laid, spent, AV.subs, AV.shut, AV.scal, AV.scals, evBuildSlice, elemsOf, zeroOK, evAppend, rowOf, noref, isRef, small, import_, AV.any, AV.anys, isPtr, finV, rename, noPtr, isBad, AV.isUndef, St.setRow, AV.shutV, rebuild, isAggV, evBuild, fillCells, evCutOwn, dedup, nodupB, idx, AV.rows, AV.rowss, AV.mapO, AV.mapOs, firstRegion, gc, keptBoxes, keptRows, renameB, AV.boxes, AV.boxess, SS, one_ne2, num_ne2, TIS, MDS, wanted, numbered, plainC, plainS, evEq, eqK, evBox, evAlloc, evStore, evLoad, evFieldAddr, behind, takeVal, AV.cells, AV.isCell, ofCells, ofCell, Value.cells, Nat.reduceAdd, Nat.reduceEqDiff, Nat.reduceLT, Nat.reduceLeDiff, Nat.reduceMul, Nat.reduceSub, reduceIte]
  · intro pre x r b hs' _
    have hx := (at_row hs' hs).1; have hc := (at_row hs' hs).2.1; have hlt := (at_row hs' hs).2.2.1; have hw1 := (at_row hs' hs).2.2.2.1; have hl9 := (at_row hs' hs).2.2.2.2
    have hat := Rat_at (M := epMk) (W := epW) (T := Epoch.tencI) (z := z) hs'
    have hset := Rat_set (M := epMk) (W := epW) (T := Epoch.tencI) (z := z) hs'
    have hlen := Rat_len epMk epW Epoch.tencI z s pre.length
    have hsucc := Zat_succ (W := epW) (z := z) hs'
    have hle := Zat_le (W := epW) (z := z) (s := s) (i := pre.length)
    have hle1 := Zat_le (W := epW) (z := z) (s := s) (i := pre.length + 1)
    clear hs'
    rw [hsucc] at hle1
    rw [show epW x = 3 + 2 * x.pairs.length + sumG ruleW x.policy.rules from rfl] at hsucc hle1
    have c2 := c1 x.pairs (by omega) (Zat epW z s pre.length + 2) (by omega)
    have c3 := c4 x hc (Zat epW z s pre.length + 2 + ((2 * x.pairs.length : Nat) : Int) + 1) (by omega)
    generalize Zat epW z s pre.length = Z at *
    have hw2 : IntKind.i64.wrap (Z + 1) = Z + 1 := IntWalk.i64_in _ (by omega)
    have hw3 : IntKind.i64.wrap (Z + 1 + 1) = Z + 2 := by rw [IntWalk.i64_in _ (by omega)]; omega
    have hw4 : IntKind.i64.wrap (Z + 2 + ((2 * x.pairs.length : Nat) : Int) + 1) = Z + 2 + ((2 * x.pairs.length : Nat) : Int) + 1 := IntWalk.i64_in _ (by omega)
    have hsc1 := tscals_Includes (marks_Includes (Z + 2) x.pairs.length)
    have hsc2 := tscals_NR (mksG ruleMk ruleW (Z + 2 + ((2 * x.pairs.length : Nat) : Int) + 1) x.policy.rules)
    have hfin : Z + 2 + ((2 * x.pairs.length : Nat) : Int) + 1 + ((sumG ruleW x.policy.rules : Nat) : Int) = Zat epW z s (pre.length + 1) := by rw [hsucc]; omega
    rw [hfin] at c3
    rw [mk_r_laws_markEpochSN] at hset
    rw [cells_r_laws_markEpochSN] at hat
    generalize Rat epMk epW Epoch.tencI z s pre.length = b at *
    have hl2 : ((pre.length : Nat) : Int) < ((b.length : Nat) : Int) := by omega
    have hg : ∀ v : AV, (b.set pre.length v)[pre.length]? = some v := fun v => List.getElem?_set_self (by omega)
    have hg2 : ∀ cs, (b.set pre.length (.agg cs))[pre.length]? = some (.agg cs) := fun v => List.getElem?_set_self (by omega)
    generalize hZ2 : Z + 2 + ((2 * x.pairs.length : Nat) : Int) = Z2 at *
    have h4 := fun ros dst st => evSub_row (Φ := run E noExt k) (n := 25) (id := 0) (xs := b.set pre.length (.agg [.int .i64 Z, .int .i64 (Z + 1), .tr 79 2 (x.pairs.map (Includes.enc true)), .int .i64 x.policy.version, .tr 86 7 (x.policy.rules.map Rule.tencN)])) (i := pre.length) (k := 2) (ros := ros) (dst := dst) (st := st) (hg2 _) rfl
    have h5 := fun ros dst st => evSub_row (Φ := run E noExt k) (n := 26) (id := 0) (xs := b.set pre.length (.agg [.int .i64 Z, .int .i64 (Z + 1), .tr 79 2 ((marks_Includes (Z + 2) x.pairs.length).map (Includes.enc true)), .int .i64 Z2, .tr 86 7 (x.policy.rules.map Rule.tencN)])) (i := pre.length) (k := 4) (ros := ros) (dst := dst) (st := st) (hg2 _) rfl
    simp -implicitDefEqProofs only [QS, QN, QG, QO, hlt, hl2, hw1, hw2, hw3, hw4, hat, hg, hsc1, hsc2, hset, evCall_sub, h4, h5, c2, c3, subOut_some, isScal, List.set_set, List.length_set, List.set_cons_succ, List.set_cons_zero, look_cons, reduceCtorEq, evCall_mutOwn, evCall_mutAgg, evGive, giveRows, ioBoxes, mutArgs, roArgs, handArg, mutSlots, isPtrB, pairs, pairss, back_nil, back_cons, backO, backE, setBoxes, importB, mode_mut, mode_give, mode_io, mode_ro, List.zip_cons_cons, List.zip_nil_left, List.zip_nil_right, ite_self, ite_true, ite_false, finish_give, finish_mut1, finish_io0, finish_io1, finish_io2, finish_io3, finish_ioc, finI, finC, finW_ptr, SO, SH, frzO, frzE, AV.laid, AV.treeV, AV.treeC, St.laid, spent, AV.subs, AV.shut, AV.scal, AV.scals, evBuildSlice, elemsOf, zeroOK, evAppend, rowOf, noref, isRef, small, import_, AV.any, AV.anys, isPtr, finV, rename, noPtr, isBad, AV.isUndef, St.setRow, AV.shutV, rebuild, isAggV, evBuild, fillCells, evCutOwn, dedup, nodupB, idx, AV.rows, AV.rowss, AV.mapO, AV.mapOs, firstRegion, gc, keptBoxes, keptRows, renameB, AV.boxes, AV.boxess, keep_24_2, leaf_some, isNormal, ifEv_bool, gate_bool, gateP_bool, gateQ_bool, pick_bool, SN, evCutRow, Int.reduceToNat, id_eq, Int.reduceBEq, Int.reduceLE, Int.reduceLT, SS, one_ne2, num_ne2, TIS, MDS, wanted, numbered, plainC, plainS, evEq, eqK, evBox, evAlloc, evStore, evLoad, evFieldAddr, behind, takeVal, AV.cells, AV.isCell, ofCells, ofCell, Value.cells, Nat.reduceAdd, Nat.reduceEqDiff, Nat.reduceLT, Nat.reduceLeDiff, Nat.reduceMul, Nat.reduceSub, reduceIte]
    repeat' (split <;> (rename_i h; (try simp -implicitDefEqProofs only [Bool.not_eq_true', Bool.not_eq_false', decide_eq_true_eq, decide_eq_false_iff_not] at h); (try simp -implicitDefEqProofs only [QS, QN, QG, QO, *, hlt, hl2, hw1, hw2, hw3, hw4, hat, hg, hsc1, hsc2, hset, evCall_sub, h4, h5, c2, c3, subOut_some, isScal, List.set_set, List.length_set, List.set_cons_succ, List.set_cons_zero, look_cons, reduceCtorEq, evCall_mutOwn, evCall_mutAgg, evGive, giveRows, ioBoxes, mutArgs, roArgs, handArg, mutSlots, isPtrB, pairs, pairss, back_nil, back_cons, backO, backE, setBoxes, importB, mode_mut, mode_give, mode_io, mode_ro, List.zip_cons_cons, List.zip_nil_left, List.zip_nil_right, ite_self, ite_true, ite_false, finish_give, finish_mut1, finish_io0, finish_io1, finish_io2, finish_io3, finish_ioc, finI, finC, finW_ptr, SO, SH, frzO, frzE, AV.laid, AV.treeV, AV.treeC, St.laid, spent, AV.subs, AV.shut, AV.scal, AV.scals, evBuildSlice, elemsOf, zeroOK, evAppend, rowOf, noref, isRef, small, import_, AV.any, AV.anys, isPtr, finV, rename, noPtr, isBad, AV.isUndef, St.setRow, AV.shutV, rebuild, isAggV, evBuild, fillCells, evCutOwn, dedup, nodupB, idx, AV.rows, AV.rowss, AV.mapO, AV.mapOs, firstRegion, gc, keptBoxes, keptRows, renameB, AV.boxes, AV.boxess, keep_24_2, leaf_some, isNormal, ifEv_bool, gate_bool, gateP_bool, gateQ_bool, pick_bool, SN, evCutRow, Int.reduceToNat, id_eq, Int.reduceBEq, Int.reduceLE, Int.reduceLT, SS, one_ne2, num_ne2, TIS, MDS, wanted, numbered, plainC, plainS, evEq, eqK, evBox, evAlloc, evStore, evLoad, evFieldAddr, behind, takeVal, AV.cells, AV.isCell, ofCells, ofCell, Value.cells, Nat.reduceAdd, Nat.reduceEqDiff, Nat.reduceLT, Nat.reduceLeDiff, Nat.reduceMul, Nat.reduceSub, reduceIte])))
  · simp -implicitDefEqProofs only [firstRegion]
    rw [keep_24_2]
    simp -implicitDefEqProofs only [QS, QN, QG, QO, Rat_zero, Zat_zero, SN, evCutRow, Int.reduceToNat, id_eq, Int.reduceBEq, Int.reduceLE, Int.reduceLT, SO, SH, frzO, frzE, AV.laid, AV.treeV, AV.treeC, St.laid, spent, AV.subs, AV.shut, AV.scal, AV.scals, evBuildSlice, elemsOf, zeroOK, evAppend, rowOf, noref, isRef, small, import_, AV.any, AV.anys, isPtr, finV, rename, noPtr, isBad, AV.isUndef, St.setRow, AV.shutV, rebuild, isAggV, evBuild, fillCells, evCutOwn, dedup, nodupB, idx, AV.rows, AV.rowss, AV.mapO, AV.mapOs, firstRegion, gc, keptBoxes, keptRows, renameB, AV.boxes, AV.boxess, SS, one_ne2, num_ne2, TIS, MDS, wanted, numbered, plainC, plainS, evEq, eqK, evBox, evAlloc, evStore, evLoad, evFieldAddr, behind, takeVal, AV.cells, AV.isCell, ofCells, ofCell, Value.cells, Nat.reduceAdd, Nat.reduceEqDiff, Nat.reduceLT, Nat.reduceLeDiff, Nat.reduceMul, Nat.reduceSub, reduceIte]
  · rfl
theorem r_laws_heldEpochS {fl : Bool} (k : Nat) (s : List Epoch) (hk : 281474976710656 + 4 * wl Epoch.w s + 4 ≤ k) (z : Int) (hz : 0 ≤ z ∧ z + (sumG epW s : Nat) ≤ 1099511627776) :
    run E noExt k 27 [.sl fl ((mksG epMk epW z s).map (Epoch.enc fl)), .int .i64 z] [] = some (.int .i64 (z + ((sumG epW s : Nat) : Int)), []) := by
  have hsl := sum_epoch_len s
  have hl := mksG_len epMk epW z s
  have hs : (mksG epMk epW z s).length ≤ 140737488355328 := by omega
  have c1 := fun (n : Nat) (h : n ≤ 1099511627776) y hy => r_laws_heldIncludesS (fl := fl) (k - 1) (by omega) y hy n h
  have c4 := fun (x : Epoch) (hx : x ∈ s) y hy => r_laws_heldRuleS (fl := fl) (k - 1) x.policy.rules (by have := wl_mem (w := Epoch.w) hx; have hw : x.w = x.pairs.length + wl Rule.w x.policy.rules := rfl; omega) y hy
  obtain ⟨k, rfl⟩ : ∃ j, k = j + 1 := ⟨k - 1, by omega⟩
  rw [run_succ rfl rfl, body_eq (nt := 60) (fn := Go.Proofs.Try.f27) (by kernel_rfl) rfl rfl rfl rfl rfl rfl rfl rfl]
  simp -implicitDefEqProofs only [Nat.add_sub_cancel] at c1 c4
  simp -implicitDefEqProofs only [QS, QN, Go.Proofs.Try.f27, SN, evCutRow, Int.reduceToNat, id_eq, Int.reduceBEq, Int.reduceLE, Int.reduceLT, SS, one_ne2, num_ne2, TIS, MDS, wanted, numbered, plainC, plainS, evEq, eqK, evBox, evAlloc, evStore, evLoad, evFieldAddr, behind, takeVal, AV.cells, AV.isCell, ofCells, ofCell, Value.cells, Nat.reduceAdd, Nat.reduceEqDiff, Nat.reduceLT, Nat.reduceLeDiff, Nat.reduceMul, Nat.reduceSub, reduceIte]
  rw [ev_loop]
  refine Eq.trans (loop_list (Q := fun (_ : Unit) x => thenEnd E.P [] _ 0 (thenEv E _ _ _ _ _ (outOf 0 x)) = some (.int .i64 (z + ((sumG epW s : Nat) : Int)), [])) (mksG epMk epW z s) (fun _ _ _ => .inr ()) id
    (fun i _ => { sl := [(0, .sl fl ((mksG epMk epW z s).map (Epoch.enc fl))), (1, .int .i64 (Zat epW z s i)), (5, .int .i64 (i : Nat))], bx := [], nx := 0, nt := 60 }) (fun _ _ => True) () ?_ ?_ (by omega) trivial ?_) ?_
  · intro _ _
    simp -implicitDefEqProofs only [QS, QN, QG, hl, Zat_end, SN, evCutRow, Int.reduceToNat, id_eq, Int.reduceBEq, Int.reduceLE, Int.reduceLT, leaf_some, isNormal, ifEv_bool, gate_bool, gateP_bool, gateQ_bool, pick_bool, firstRegion, gc, keptBoxes, keptRows, dedup, nodupB, idx, renameB, AV.boxes, AV.boxess, AV.rows, AV.rowss, AV.mapO, AV.mapOs, SS, one_ne2, num_ne2, TIS, MDS, wanted, numbered, plainC, plainS, evEq, eqK, evBox, evAlloc, evStore, evLoad, evFieldAddr, behind, takeVal, AV.cells, AV.isCell, ofCells, ofCell, Value.cells, Nat.reduceAdd, Nat.reduceEqDiff, Nat.reduceLT, Nat.reduceLeDiff, Nat.reduceMul, Nat.reduceSub, reduceIte]
    repeat' (split <;> (rename_i h; (try simp -implicitDefEqProofs only [Bool.not_eq_true', Bool.not_eq_false', decide_eq_true_eq, decide_eq_false_iff_not] at h); (try simp -implicitDefEqProofs only [QS, QN, QG, *, hl, Zat_end, SN, evCutRow, Int.reduceToNat, id_eq, Int.reduceBEq, Int.reduceLE, Int.reduceLT, leaf_some, isNormal, ifEv_bool, gate_bool, gateP_bool, gateQ_bool, pick_bool, firstRegion, gc, keptBoxes, keptRows, dedup, nodupB, idx, renameB, AV.boxes, AV.boxess, AV.rows, AV.rowss, AV.mapO, AV.mapOs, SS, one_ne2, num_ne2, TIS, MDS, wanted, numbered, plainC, plainS, evEq, eqK, evBox, evAlloc, evStore, evLoad, evFieldAddr, behind, takeVal, AV.cells, AV.isCell, ofCells, ofCell, Value.cells, Nat.reduceAdd, Nat.reduceEqDiff, Nat.reduceLT, Nat.reduceLeDiff, Nat.reduceMul, Nat.reduceSub, reduceIte])))
  · intro pre x r b hs' _
    obtain ⟨y, hy, _, hxe, hsucc⟩ := mksG_at hs'
    have hx := (at_row hs' hs).1; have hc := (at_row hs' hs).2.1; have hlt := (at_row hs' hs).2.2.1; have hw1 := (at_row hs' hs).2.2.2.1; have hl9 := (at_row hs' hs).2.2.2.2
    have hle := Zat_le (W := epW) (z := z) (s := s) (i := pre.length)
    have hle1 := Zat_le (W := epW) (z := z) (s := s) (i := pre.length + 1)
    clear hs' hc
    subst hxe
    rw [hsucc] at hle1
    rw [show epW y = 3 + 2 * y.pairs.length + sumG ruleW y.policy.rules from rfl] at hsucc hle1
    have c2 := c1 y.pairs.length (by omega) (Zat epW z s pre.length + 2) (by omega)
    have c3 := c4 y hy (Zat epW z s pre.length + 2 + ((2 * y.pairs.length : Nat) : Int) + 1) (by omega)
    generalize Zat epW z s pre.length = Z at *
    have hw2 : IntKind.i64.wrap (Z + 1) = Z + 1 := IntWalk.i64_in _ (by omega)
    have hw3 : IntKind.i64.wrap (Z + 1 + 1) = Z + 2 := by rw [IntWalk.i64_in _ (by omega)]; omega
    have hw4 : IntKind.i64.wrap (Z + 2 + ((2 * y.pairs.length : Nat) : Int) + 1) = Z + 2 + ((2 * y.pairs.length : Nat) : Int) + 1 := IntWalk.i64_in _ (by omega)
    have hfin : Z + 2 + ((2 * y.pairs.length : Nat) : Int) + 1 + ((sumG ruleW y.policy.rules : Nat) : Int) = Zat epW z s (pre.length + 1) := by rw [hsucc]; omega
    have hneg : decide (Zat epW z s (pre.length + 1) < 0) = false := by rw [hsucc]; exact decide_eq_false (by omega)
    have hneg2 : decide (Z + 2 + ((2 * y.pairs.length : Nat) : Int) < 0) = false := decide_eq_false (by omega)
    rw [hfin] at c3
    simp -implicitDefEqProofs only [QS, QN, QG, enc_mkE, hx, hlt, hw1, hw2, hw3, hw4, c2, c3, hneg, hneg2, bne, keep_27_2, leaf_some, isNormal, ifEv_bool, gate_bool, gateP_bool, gateQ_bool, pick_bool, SN, evCutRow, Int.reduceToNat, id_eq, Int.reduceBEq, Int.reduceLE, Int.reduceLT, firstRegion, gc, keptBoxes, keptRows, dedup, nodupB, idx, renameB, AV.boxes, AV.boxess, AV.rows, AV.rowss, AV.mapO, AV.mapOs, SS, one_ne2, num_ne2, TIS, MDS, wanted, numbered, plainC, plainS, evEq, eqK, evBox, evAlloc, evStore, evLoad, evFieldAddr, behind, takeVal, AV.cells, AV.isCell, ofCells, ofCell, Value.cells, Nat.reduceAdd, Nat.reduceEqDiff, Nat.reduceLT, Nat.reduceLeDiff, Nat.reduceMul, Nat.reduceSub, reduceIte]
    repeat' (split <;> (rename_i h; (try simp -implicitDefEqProofs only [Bool.not_eq_true', Bool.not_eq_false', decide_eq_true_eq, decide_eq_false_iff_not] at h); (try simp -implicitDefEqProofs only [QS, QN, QG, *, enc_mkE, hx, hlt, hw1, hw2, hw3, hw4, c2, c3, hneg, hneg2, bne, keep_27_2, leaf_some, isNormal, ifEv_bool, gate_bool, gateP_bool, gateQ_bool, pick_bool, SN, evCutRow, Int.reduceToNat, id_eq, Int.reduceBEq, Int.reduceLE, Int.reduceLT, firstRegion, gc, keptBoxes, keptRows, dedup, nodupB, idx, renameB, AV.boxes, AV.boxess, AV.rows, AV.rowss, AV.mapO, AV.mapOs, SS, one_ne2, num_ne2, TIS, MDS, wanted, numbered, plainC, plainS, evEq, eqK, evBox, evAlloc, evStore, evLoad, evFieldAddr, behind, takeVal, AV.cells, AV.isCell, ofCells, ofCell, Value.cells, Nat.reduceAdd, Nat.reduceEqDiff, Nat.reduceLT, Nat.reduceLeDiff, Nat.reduceMul, Nat.reduceSub, reduceIte])))
  · simp -implicitDefEqProofs only [firstRegion]
    rw [keep_27_2]
    simp -implicitDefEqProofs only [QS, QN, QG, Zat_zero, SN, evCutRow, Int.reduceToNat, id_eq, Int.reduceBEq, Int.reduceLE, Int.reduceLT, firstRegion, gc, keptBoxes, keptRows, dedup, nodupB, idx, renameB, AV.boxes, AV.boxess, AV.rows, AV.rowss, AV.mapO, AV.mapOs, SS, one_ne2, num_ne2, TIS, MDS, wanted, numbered, plainC, plainS, evEq, eqK, evBox, evAlloc, evStore, evLoad, evFieldAddr, behind, takeVal, AV.cells, AV.isCell, ofCells, ofCell, Value.cells, Nat.reduceAdd, Nat.reduceEqDiff, Nat.reduceLT, Nat.reduceLeDiff, Nat.reduceMul, Nat.reduceSub, reduceIte]
  · rfl
end Go.Proofs.Ytaoemmefjakjnaa.Flat
