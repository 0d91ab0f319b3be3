/-
Conditions that can both hold.
-/
import Derived.Test.YtbajieiodabdgaaEqCB
set_option linter.unusedVariables false
set_option linter.unusedSimpArgs false
set_option maxRecDepth 10000
namespace Go.Proofs.Ytbajieiodabdgaa.Flat
theorem range_at {n : Nat} {pre r : List Nat} {x : Nat} (h : List.range n = pre ++ x :: r) : x = pre.length ∧ pre.length < n := by
  have h1 : (List.range n)[pre.length]? = some x := by rw [h]; simp
  obtain ⟨h2, h3⟩ := List.getElem?_eq_some_iff.1 h1
  rw [List.getElem_range] at h3
  simp at h2
  exact ⟨h3.symm, h2⟩
theorem r_spec_l23Join {fl gl : Bool} (k : Nat) (s t : List Cond) (hk : 290271069732864 + 4 * (wl Cond.w s + wl Cond.w t) + 30 ≤ k) (hw : wl Cond.w s + wl Cond.w t ≤ 1099511627776) :
    run E noExt k 71 [.sl fl (s.map (Cond.enc fl)), .sl gl (t.map (Cond.enc gl))] [] = some (.own 0 false 45 4 ((gathers t (gathers s [])).map (Cond.enc true)), []) := by
  have hs1 := wl_length Cond.w s
  have ht1 := wl_length Cond.w t
  have hs : s.length ≤ 140737488355328 := by omega
  have ht : t.length ≤ 140737488355328 := by omega
  have c1 := fun (c : Cond) (hc : c ∈ s) out ho hl => r_spec_l15Leaves0 (fl := fl) c (k - 1) (by have := wl_mem (w := Cond.w) hc; omega) (by have := wl_mem (w := Cond.w) hc; omega) out ho hl
  have c2 := fun (c : Cond) (hc : c ∈ t) out ho hl => r_spec_l15Leaves0 (fl := gl) c (k - 1) (by have := wl_mem (w := Cond.w) hc; omega) (by have := wl_mem (w := Cond.w) hc; omega) out ho hl
  have hf := gathers_facts s []
  simp -implicitDefEqProofs only [List.length_nil] at hf
  obtain ⟨k, rfl⟩ : ∃ j, k = j + 1 := ⟨k - 1, by omega⟩
  rw [run_succ rfl rfl, body_eq (nt := 34) (fn := Go.Proofs.Try.f71) (by kernel_rfl) rfl rfl rfl rfl rfl rfl rfl rfl]
  simp -implicitDefEqProofs only [Nat.add_sub_cancel, enc_Cond] at c1 c2
  simp -implicitDefEqProofs only [QS, QN, QO, Go.Proofs.Try.f71, SO, SH, frzO, frzE, AV.laid, AV.treeV, AV.treeC, St.laid, spent, AV.subs, AV.shut, AV.scal, AV.scals, evBuildSlice, elemsOf, zeroOK, evAppend, rowOf, noref, isRef, small, import_, AV.any, AV.anys, isPtr, finV, rename, noPtr, isBad, AV.isUndef, St.setRow, AV.shutV, rebuild, isAggV, evBuild, fillCells, evCutOwn, dedup, nodupB, idx, AV.rows, AV.rowss, AV.mapO, AV.mapOs, SN, evCutRow, Int.reduceToNat, id_eq, Int.reduceBEq, Int.reduceLE, Int.reduceLT, SS, one_ne2, num_ne2, TIS, MDS, wanted, numbered, plainC, plainS, evEq, eqK, evBox, evAlloc, evStore, evLoad, evFieldAddr, behind, takeVal, AV.cells, AV.isCell, ofCells, ofCell, Value.cells, Nat.reduceAdd, Nat.reduceEqDiff, Nat.reduceLT, Nat.reduceLeDiff, Nat.reduceMul, Nat.reduceSub, reduceIte]
  rw [ev_loop]
  refine loop_list (Q := fun (g : List Cond) z => g = gathers s [] → thenEnd E.P _ _ 0 (thenEv E _ _ _ _ _ (outOf 0 z)) = some (.own 0 false 45 4 ((gathers t (gathers s [])).map (Cond.enc true)), [])) s (gStep gather) id
    (fun i b => { sl := [(0, .sl fl (s.map (Cond.enc fl))), (1, .sl gl (t.map (Cond.enc gl))), (5, .own 0 false 45 4 (b.map (Cond.enc true))), (6, .int .i64 (i : Nat))], bx := [], nx := 1, nt := 34 })
    (fun i b => Leaves b ∧ b.length + wl Cond.w (s.drop i) ≤ wl Cond.w s) [] ?_ ?_ ?_ ⟨leaves_nil, by simp⟩ ?_ (gLoop s 0 [])
  · intro b _
    simp -implicitDefEqProofs only [QS, QN, QO, leaf_some, isNormal, ifEv_bool, SO, SH, frzO, frzE, AV.laid, AV.treeV, AV.treeC, St.laid, spent, AV.subs, AV.shut, AV.scal, AV.scals, evBuildSlice, elemsOf, zeroOK, evAppend, rowOf, noref, isRef, small, import_, AV.any, AV.anys, isPtr, finV, rename, noPtr, isBad, AV.isUndef, St.setRow, AV.shutV, rebuild, isAggV, evBuild, fillCells, evCutOwn, dedup, nodupB, idx, AV.rows, AV.rowss, AV.mapO, AV.mapOs, SN, evCutRow, Int.reduceToNat, id_eq, Int.reduceBEq, Int.reduceLE, Int.reduceLT, SS, one_ne2, num_ne2, TIS, MDS, wanted, numbered, plainC, plainS, evEq, eqK, evBox, evAlloc, evStore, evLoad, evFieldAddr, behind, takeVal, AV.cells, AV.isCell, ofCells, ofCell, Value.cells, Nat.reduceAdd, Nat.reduceEqDiff, Nat.reduceLT, Nat.reduceLeDiff, Nat.reduceMul, Nat.reduceSub, reduceIte]
    intro hb
    subst hb
    rw [ev_loop]
    refine Eq.trans (loop_list (Q := fun (g : List Cond) z => thenEnd E.P _ _ 0 (thenEv E _ _ _ _ _ (outOf 2 z)) = some (.own 0 false 45 4 (g.map (Cond.enc true)), [])) t (gStep gather) id
      (fun i b => { sl := [(1, .sl gl (t.map (Cond.enc gl))), (5, .own 0 false 45 4 (b.map (Cond.enc true))), (7, .int .i64 (i : Nat))], bx := [], nx := 1, nt := 34 })
      (fun i b => Leaves b ∧ b.length + wl Cond.w (t.drop i) ≤ wl Cond.w s + wl Cond.w t) (gathers s []) ?_ ?_ (by omega) ⟨hf.1 leaves_nil, by rw [List.drop_zero]; omega⟩ ?_) ?_
    · intro b _
      simp -implicitDefEqProofs only [QS, QN, QG, QO, SO, SH, frzO, frzE, AV.laid, AV.treeV, AV.treeC, St.laid, spent, AV.subs, AV.shut, AV.scal, AV.scals, evBuildSlice, elemsOf, zeroOK, evAppend, rowOf, noref, isRef, small, import_, AV.any, AV.anys, isPtr, finV, rename, noPtr, isBad, AV.isUndef, St.setRow, AV.shutV, rebuild, isAggV, evBuild, fillCells, evCutOwn, dedup, nodupB, idx, AV.rows, AV.rowss, AV.mapO, AV.mapOs, firstRegion, gc, keptBoxes, keptRows, renameB, AV.boxes, AV.boxess, leaf_some, isNormal, ifEv_bool, gate_bool, gateP_bool, gateQ_bool, pick_bool, SN, evCutRow, Int.reduceToNat, id_eq, Int.reduceBEq, Int.reduceLE, Int.reduceLT, SS, one_ne2, num_ne2, TIS, MDS, wanted, numbered, plainC, plainS, evEq, eqK, evBox, evAlloc, evStore, evLoad, evFieldAddr, behind, takeVal, AV.cells, AV.isCell, ofCells, ofCell, Value.cells, Nat.reduceAdd, Nat.reduceEqDiff, Nat.reduceLT, Nat.reduceLeDiff, Nat.reduceMul, Nat.reduceSub, reduceIte]
      repeat' (split <;> (rename_i h; (try simp -implicitDefEqProofs only [Bool.not_eq_true', Bool.not_eq_false', decide_eq_true_eq, decide_eq_false_iff_not] at h); (try simp -implicitDefEqProofs only [QS, QN, QG, QO, *, SO, SH, frzO, frzE, AV.laid, AV.treeV, AV.treeC, St.laid, spent, AV.subs, AV.shut, AV.scal, AV.scals, evBuildSlice, elemsOf, zeroOK, evAppend, rowOf, noref, isRef, small, import_, AV.any, AV.anys, isPtr, finV, rename, noPtr, isBad, AV.isUndef, St.setRow, AV.shutV, rebuild, isAggV, evBuild, fillCells, evCutOwn, dedup, nodupB, idx, AV.rows, AV.rowss, AV.mapO, AV.mapOs, firstRegion, gc, keptBoxes, keptRows, renameB, AV.boxes, AV.boxess, leaf_some, isNormal, ifEv_bool, gate_bool, gateP_bool, gateQ_bool, pick_bool, SN, evCutRow, Int.reduceToNat, id_eq, Int.reduceBEq, Int.reduceLE, Int.reduceLT, SS, one_ne2, num_ne2, TIS, MDS, wanted, numbered, plainC, plainS, evEq, eqK, evBox, evAlloc, evStore, evLoad, evFieldAddr, behind, takeVal, AV.cells, AV.isCell, ofCells, ofCell, Value.cells, Nat.reduceAdd, Nat.reduceEqDiff, Nat.reduceLT, Nat.reduceLeDiff, Nat.reduceMul, Nat.reduceSub, reduceIte])))
    · intro pre c r b hs' ⟨hb1, hb2⟩
      have hx := (at_row hs' ht).1; have hc := (at_row hs' ht).2.1; have hlt := (at_row hs' ht).2.2.1; have hw1 := (at_row hs' ht).2.2.2.1; have hl9 := (at_row hs' ht).2.2.2.2
      have hd : t.drop pre.length = c :: r := by rw [hs']; simp
      have hd1 : t.drop (pre.length + 1) = r := by rw [hs']; simp
      have hg1 := gather_facts c b
      rw [hd] at hb2
      simp -implicitDefEqProofs only [wl] at hb2
      have c4 := c2 c hc b hb1 (by omega)
      have hI : Leaves (gather c b) ∧ (gather c b).length + wl Cond.w (t.drop (pre.length + 1)) ≤ wl Cond.w s + wl Cond.w t := by
        rw [hd1]
        exact ⟨hg1.1 hb1, by have := hg1.2; omega⟩
      clear hs' hd hd1
      have hs1 := scals_leaves hb1
      have hs2 := scals_leaves hI.1
      simp -implicitDefEqProofs only [QS, QN, QG, QO, enc_Cond, hx, hlt, hw1, c4, hs1, hs2, gStep, evCall_gr, look_cons, reduceCtorEq, evCall_mutOwn, evCall_mutAgg, evGive, giveRows, ioBoxes, mutArgs, roArgs, handArg, mutSlots, isPtrB, pairs, pairss, back_nil, back_cons, backO, backE, setBoxes, importB, mode_mut, mode_give, mode_io, mode_ro, List.zip_cons_cons, List.zip_nil_left, List.zip_nil_right, ite_self, ite_true, ite_false, finish_give, finish_mut1, finish_io0, finish_io1, finish_io2, finish_io3, finish_ioc, finI, finC, finW_ptr, SO, SH, frzO, frzE, AV.laid, AV.treeV, AV.treeC, St.laid, spent, AV.subs, AV.shut, AV.scal, AV.scals, evBuildSlice, elemsOf, zeroOK, evAppend, rowOf, noref, isRef, small, import_, AV.any, AV.anys, isPtr, finV, rename, noPtr, isBad, AV.isUndef, St.setRow, AV.shutV, rebuild, isAggV, evBuild, fillCells, evCutOwn, dedup, nodupB, idx, AV.rows, AV.rowss, AV.mapO, AV.mapOs, firstRegion, gc, keptBoxes, keptRows, renameB, AV.boxes, AV.boxess, keep_71_7, leaf_some, isNormal, ifEv_bool, gate_bool, gateP_bool, gateQ_bool, pick_bool, SN, evCutRow, Int.reduceToNat, id_eq, Int.reduceBEq, Int.reduceLE, Int.reduceLT, SS, one_ne2, num_ne2, TIS, MDS, wanted, numbered, plainC, plainS, evEq, eqK, evBox, evAlloc, evStore, evLoad, evFieldAddr, behind, takeVal, AV.cells, AV.isCell, ofCells, ofCell, Value.cells, Nat.reduceAdd, Nat.reduceEqDiff, Nat.reduceLT, Nat.reduceLeDiff, Nat.reduceMul, Nat.reduceSub, reduceIte]
      repeat' (split <;> (rename_i h; (try simp -implicitDefEqProofs only [Bool.not_eq_true', Bool.not_eq_false', decide_eq_true_eq, decide_eq_false_iff_not] at h); (try simp -implicitDefEqProofs only [QS, QN, QG, QO, *, enc_Cond, hx, hlt, hw1, c4, hs1, hs2, gStep, evCall_gr, look_cons, reduceCtorEq, evCall_mutOwn, evCall_mutAgg, evGive, giveRows, ioBoxes, mutArgs, roArgs, handArg, mutSlots, isPtrB, pairs, pairss, back_nil, back_cons, backO, backE, setBoxes, importB, mode_mut, mode_give, mode_io, mode_ro, List.zip_cons_cons, List.zip_nil_left, List.zip_nil_right, ite_self, ite_true, ite_false, finish_give, finish_mut1, finish_io0, finish_io1, finish_io2, finish_io3, finish_ioc, finI, finC, finW_ptr, SO, SH, frzO, frzE, AV.laid, AV.treeV, AV.treeC, St.laid, spent, AV.subs, AV.shut, AV.scal, AV.scals, evBuildSlice, elemsOf, zeroOK, evAppend, rowOf, noref, isRef, small, import_, AV.any, AV.anys, isPtr, finV, rename, noPtr, isBad, AV.isUndef, St.setRow, AV.shutV, rebuild, isAggV, evBuild, fillCells, evCutOwn, dedup, nodupB, idx, AV.rows, AV.rowss, AV.mapO, AV.mapOs, firstRegion, gc, keptBoxes, keptRows, renameB, AV.boxes, AV.boxess, keep_71_7, leaf_some, isNormal, ifEv_bool, gate_bool, gateP_bool, gateQ_bool, pick_bool, SN, evCutRow, Int.reduceToNat, id_eq, Int.reduceBEq, Int.reduceLE, Int.reduceLT, SS, one_ne2, num_ne2, TIS, MDS, wanted, numbered, plainC, plainS, evEq, eqK, evBox, evAlloc, evStore, evLoad, evFieldAddr, behind, takeVal, AV.cells, AV.isCell, ofCells, ofCell, Value.cells, Nat.reduceAdd, Nat.reduceEqDiff, Nat.reduceLT, Nat.reduceLeDiff, Nat.reduceMul, Nat.reduceSub, reduceIte])))
      exact hI
    · simp -implicitDefEqProofs only [firstRegion]
      rw [keep_71_7]
      simp -implicitDefEqProofs only [QS, QN, QG, QO, SN, evCutRow, Int.reduceToNat, id_eq, Int.reduceBEq, Int.reduceLE, Int.reduceLT, SO, SH, frzO, frzE, AV.laid, AV.treeV, AV.treeC, St.laid, spent, AV.subs, AV.shut, AV.scal, AV.scals, evBuildSlice, elemsOf, zeroOK, evAppend, rowOf, noref, isRef, small, import_, AV.any, AV.anys, isPtr, finV, rename, noPtr, isBad, AV.isUndef, St.setRow, AV.shutV, rebuild, isAggV, evBuild, fillCells, evCutOwn, dedup, nodupB, idx, AV.rows, AV.rowss, AV.mapO, AV.mapOs, firstRegion, gc, keptBoxes, keptRows, renameB, AV.boxes, AV.boxess, SS, one_ne2, num_ne2, TIS, MDS, wanted, numbered, plainC, plainS, evEq, eqK, evBox, evAlloc, evStore, evLoad, evFieldAddr, behind, takeVal, AV.cells, AV.isCell, ofCells, ofCell, Value.cells, Nat.reduceAdd, Nat.reduceEqDiff, Nat.reduceLT, Nat.reduceLeDiff, Nat.reduceMul, Nat.reduceSub, reduceIte]
    · rw [gLoop]
  · intro pre c r b hs' ⟨hb1, hb2⟩
    have hx := (at_row hs' hs).1; have hc := (at_row hs' hs).2.1; have hlt := (at_row hs' hs).2.2.1; have hw1 := (at_row hs' hs).2.2.2.1; have hl9 := (at_row hs' hs).2.2.2.2
    have hd : s.drop pre.length = c :: r := by rw [hs']; simp
    have hd1 : s.drop (pre.length + 1) = r := by rw [hs']; simp
    have hg1 := gather_facts c b
    rw [hd] at hb2
    simp -implicitDefEqProofs only [wl] at hb2
    have c4 := c1 c hc b hb1 (by omega)
    have hI : Leaves (gather c b) ∧ (gather c b).length + wl Cond.w (s.drop (pre.length + 1)) ≤ wl Cond.w s := by
      rw [hd1]
      exact ⟨hg1.1 hb1, by have := hg1.2; omega⟩
    clear hs' hd hd1
    have hs1 := scals_leaves hb1
    have hs2 := scals_leaves hI.1
    simp -implicitDefEqProofs only [QS, QN, QG, QO, enc_Cond, hx, hlt, hw1, c4, hs1, hs2, gStep, evCall_gr, look_cons, reduceCtorEq, evCall_mutOwn, evCall_mutAgg, evGive, giveRows, ioBoxes, mutArgs, roArgs, handArg, mutSlots, isPtrB, pairs, pairss, back_nil, back_cons, backO, backE, setBoxes, importB, mode_mut, mode_give, mode_io, mode_ro, List.zip_cons_cons, List.zip_nil_left, List.zip_nil_right, ite_self, ite_true, ite_false, finish_give, finish_mut1, finish_io0, finish_io1, finish_io2, finish_io3, finish_ioc, finI, finC, finW_ptr, SO, SH, frzO, frzE, AV.laid, AV.treeV, AV.treeC, St.laid, spent, AV.subs, AV.shut, AV.scal, AV.scals, evBuildSlice, elemsOf, zeroOK, evAppend, rowOf, noref, isRef, small, import_, AV.any, AV.anys, isPtr, finV, rename, noPtr, isBad, AV.isUndef, St.setRow, AV.shutV, rebuild, isAggV, evBuild, fillCells, evCutOwn, dedup, nodupB, idx, AV.rows, AV.rowss, AV.mapO, AV.mapOs, firstRegion, gc, keptBoxes, keptRows, renameB, AV.boxes, AV.boxess, keep_71_3, leaf_some, isNormal, ifEv_bool, gate_bool, gateP_bool, gateQ_bool, pick_bool, SN, evCutRow, Int.reduceToNat, id_eq, Int.reduceBEq, Int.reduceLE, Int.reduceLT, SS, one_ne2, num_ne2, TIS, MDS, wanted, numbered, plainC, plainS, evEq, eqK, evBox, evAlloc, evStore, evLoad, evFieldAddr, behind, takeVal, AV.cells, AV.isCell, ofCells, ofCell, Value.cells, Nat.reduceAdd, Nat.reduceEqDiff, Nat.reduceLT, Nat.reduceLeDiff, Nat.reduceMul, Nat.reduceSub, reduceIte]
    repeat' (split <;> (rename_i h; (try simp -implicitDefEqProofs only [Bool.not_eq_true', Bool.not_eq_false', decide_eq_true_eq, decide_eq_false_iff_not] at h); (try simp -implicitDefEqProofs only [QS, QN, QG, QO, *, enc_Cond, hx, hlt, hw1, c4, hs1, hs2, gStep, evCall_gr, look_cons, reduceCtorEq, evCall_mutOwn, evCall_mutAgg, evGive, giveRows, ioBoxes, mutArgs, roArgs, handArg, mutSlots, isPtrB, pairs, pairss, back_nil, back_cons, backO, backE, setBoxes, importB, mode_mut, mode_give, mode_io, mode_ro, List.zip_cons_cons, List.zip_nil_left, List.zip_nil_right, ite_self, ite_true, ite_false, finish_give, finish_mut1, finish_io0, finish_io1, finish_io2, finish_io3, finish_ioc, finI, finC, finW_ptr, SO, SH, frzO, frzE, AV.laid, AV.treeV, AV.treeC, St.laid, spent, AV.subs, AV.shut, AV.scal, AV.scals, evBuildSlice, elemsOf, zeroOK, evAppend, rowOf, noref, isRef, small, import_, AV.any, AV.anys, isPtr, finV, rename, noPtr, isBad, AV.isUndef, St.setRow, AV.shutV, rebuild, isAggV, evBuild, fillCells, evCutOwn, dedup, nodupB, idx, AV.rows, AV.rowss, AV.mapO, AV.mapOs, firstRegion, gc, keptBoxes, keptRows, renameB, AV.boxes, AV.boxess, keep_71_3, leaf_some, isNormal, ifEv_bool, gate_bool, gateP_bool, gateQ_bool, pick_bool, SN, evCutRow, Int.reduceToNat, id_eq, Int.reduceBEq, Int.reduceLE, Int.reduceLT, SS, one_ne2, num_ne2, TIS, MDS, wanted, numbered, plainC, plainS, evEq, eqK, evBox, evAlloc, evStore, evLoad, evFieldAddr, behind, takeVal, AV.cells, AV.isCell, ofCells, ofCell, Value.cells, Nat.reduceAdd, Nat.reduceEqDiff, Nat.reduceLT, Nat.reduceLeDiff, Nat.reduceMul, Nat.reduceSub, reduceIte])))
    exact hI
  · omega
  · simp -implicitDefEqProofs only [firstRegion]
    rw [keep_71_3]
    simp -implicitDefEqProofs only [QS, QN, QG, QO, SN, evCutRow, Int.reduceToNat, id_eq, Int.reduceBEq, Int.reduceLE, Int.reduceLT, SO, SH, frzO, frzE, AV.laid, AV.treeV, AV.treeC, St.laid, spent, AV.subs, AV.shut, AV.scal, AV.scals, evBuildSlice, elemsOf, zeroOK, evAppend, rowOf, noref, isRef, small, import_, AV.any, AV.anys, isPtr, finV, rename, noPtr, isBad, AV.isUndef, St.setRow, AV.shutV, rebuild, isAggV, evBuild, fillCells, evCutOwn, dedup, nodupB, idx, AV.rows, AV.rowss, AV.mapO, AV.mapOs, firstRegion, gc, keptBoxes, keptRows, renameB, AV.boxes, AV.boxess, SS, one_ne2, num_ne2, TIS, MDS, wanted, numbered, plainC, plainS, evEq, eqK, evBox, evAlloc, evStore, evLoad, evFieldAddr, behind, takeVal, AV.cells, AV.isCell, ofCells, ofCell, Value.cells, Nat.reduceAdd, Nat.reduceEqDiff, Nat.reduceLT, Nat.reduceLeDiff, Nat.reduceMul, Nat.reduceSub, reduceIte]
end Go.Proofs.Ytbajieiodabdgaa.Flat
