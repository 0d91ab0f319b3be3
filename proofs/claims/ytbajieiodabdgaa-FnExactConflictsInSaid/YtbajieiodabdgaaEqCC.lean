/-
Conditions that can both hold.
-/
import Derived.Test.YtbajieiodabdgaaEqCB
set_option linter.unusedVariables false
set_option linter.unusedSimpArgs false
set_option maxRecDepth 10000
namespace Go.Proofs.Ytbajieiodabdgaa.Flat
noncomputable def evBy (x : Cond) (s : List Cond) (v : List Bool) : Bool := isCond x && x.eval fun c => (c.op == 1) || leafVal s v c
theorem isCond_w {x : Cond} (h : isCond x = true) : x.w ≤ 14 := by
  unfold isCond at h
  simp -implicitDefEqProofs only [Bool.and_eq_true, decide_eq_true_eq] at h
  omega
noncomputable def joinAtoms (a b : Cond) : List Cond := gather b (gather a [])
noncomputable def canBoth (a b : Cond) : Bool :=
  isCond a && isCond b && (decide (6 < (joinAtoms a b).length) || (List.range (2 ^ (joinAtoms a b).length)).any fun i => evBy a (joinAtoms a b) (valsOf (joinAtoms a b).length i) && evBy b (joinAtoms a b) (valsOf (joinAtoms a b).length i))
theorem joinAtoms_facts (a b : Cond) : Leaves (joinAtoms a b) ∧ (joinAtoms a b).length ≤ a.w + b.w + 2 := by
  have h1 := gather_facts a []
  have h2 := gather_facts b (gather a [])
  refine ⟨h2.1 (h1.1 leaves_nil), ?_⟩
  have h3 := h1.2
  have h4 := h2.2
  simp -implicitDefEqProofs only [List.length_nil] at h3
  unfold joinAtoms
  omega
theorem range_at {n : Nat} {pre r : List Nat} {x : Nat} (h : List.range n = pre ++ x :: r) : x = pre.length ∧ pre.length < n := by
  have h1 : (List.range n)[pre.length]? = some x := by rw [h]; simp
  obtain ⟨h2, h3⟩ := List.getElem?_eq_some_iff.1 h1
  rw [List.getElem_range] at h3
  simp at h2
  exact ⟨h3.symm, h2⟩
theorem r_impl_CanBothHold (k : Nat) (hk : 884940186000000 + 30 ≤ k) (a b : Cond) (ha0 : a.w ≤ 1073741824) (hb0 : b.w ≤ 1073741824) :
    run E noExt k 26 [a.enc true, b.enc true] [] = some (.bool (canBoth a b), []) := by
  have ha : a.w ≤ 1099511627776 := by omega
  have hb : b.w ≤ 1099511627776 := by omega
  have c1 := r_impl_IsCond (fl := true) (k - 1) (by omega) a ha
  have c2 := r_impl_IsCond (fl := true) (k - 1) (by omega) b hb
  have hj := joinAtoms_facts a b
  have c3 := r_impl_LeavesOf (fl := true) (k - 1) a (by omega) ha
  have c4 := r_impl_gathered0 (fl := true) b (k - 1) (by omega) hb (gather a []) ((gather_facts a []).1 leaves_nil) (by have := (gather_facts a []).2; simp -implicitDefEqProofs only [List.length_nil] at this; omega)
  have c5 := r_impl_valuesOf (k - 1) (by omega) (joinAtoms a b).length
  have c6 := fun v => r_impl_EvalBy (fl := true) (f2 := true) (f3 := true) (k - 1) (by omega) a (joinAtoms a b) v ha (by rw [wl_leaves hj.1]; omega)
  have c7 := fun v => r_impl_EvalBy (fl := true) (f2 := true) (f3 := true) (k - 1) (by omega) b (joinAtoms a b) v hb (by rw [wl_leaves hj.1]; omega)
  have hs1 := scals_leaves ((gather_facts a []).1 leaves_nil)
  have hs2 := scals_leaves hj.1
  unfold canBoth
  obtain ⟨k, rfl⟩ : ∃ j, k = j + 1 := ⟨k - 1, by omega⟩
  rw [run_succ rfl rfl, body_eq (nt := 44) (fn := Go.Proofs.Try.f26) (by kernel_rfl) rfl rfl rfl rfl rfl rfl rfl rfl]
  have e6 : ∀ v, (isCond a && a.eval fun c => (c.op == 1) || leafVal (joinAtoms a b) v c) = evBy a (joinAtoms a b) v := fun _ => rfl
  have e7 : ∀ v, (isCond b && b.eval fun c => (c.op == 1) || leafVal (joinAtoms a b) v c) = evBy b (joinAtoms a b) v := fun _ => rfl
  simp -implicitDefEqProofs only [e6] at c6
  simp -implicitDefEqProofs only [e7] at c7
  rw [show gather b (gather a []) = joinAtoms a b from rfl] at c4
  simp -implicitDefEqProofs only [Nat.add_sub_cancel] at c5
  simp -implicitDefEqProofs only [Nat.add_sub_cancel, enc_Cond] at c1 c2 c3 c4 c6 c7
  cases hA : isCond a with
  | false =>
    rw [hA] at c1
    simp -implicitDefEqProofs only [QS, QN, QG, QO, Go.Proofs.Try.f26, enc_Cond, c1, ifEv_bool, gate_bool, pick_bool, if_false, if_true, SO, SH, frzO, frzE, AV.laid, AV.treeV, AV.treeC, St.laid, spent, AV.subs, AV.shut, AV.scal, AV.scals, evBuildSlice, elemsOf, zeroOK, evAppend, rowOf, noref, isRef, small, import_, AV.any, AV.anys, isPtr, finV, rename, noPtr, isBad, AV.isUndef, St.setRow, AV.shutV, rebuild, isAggV, evBuild, fillCells, evCutOwn, dedup, nodupB, idx, AV.rows, AV.rowss, AV.mapO, AV.mapOs, firstRegion, gc, keptBoxes, keptRows, renameB, AV.boxes, AV.boxess, SN, evCutRow, Int.reduceToNat, id_eq, Int.reduceBEq, Int.reduceLE, Int.reduceLT, SS, one_ne2, TIS, MDS, wanted, numbered, plainC, plainS, evEq, eqK, evBox, evAlloc, evStore, evLoad, evFieldAddr, behind, takeVal, AV.cells, AV.isCell, ofCells, ofCell, Value.cells, Nat.reduceAdd, Nat.reduceEqDiff, Nat.reduceLT, Nat.reduceLeDiff, Nat.reduceMul, Nat.reduceSub, reduceIte]
  | true =>
    rw [hA] at c1
    cases hB : isCond b with
    | false =>
      rw [hB] at c2
      simp -implicitDefEqProofs only [QS, QN, QG, QO, Go.Proofs.Try.f26, enc_Cond, c1, c2, ifEv_bool, gate_bool, pick_bool, if_false, if_true, SO, SH, frzO, frzE, AV.laid, AV.treeV, AV.treeC, St.laid, spent, AV.subs, AV.shut, AV.scal, AV.scals, evBuildSlice, elemsOf, zeroOK, evAppend, rowOf, noref, isRef, small, import_, AV.any, AV.anys, isPtr, finV, rename, noPtr, isBad, AV.isUndef, St.setRow, AV.shutV, rebuild, isAggV, evBuild, fillCells, evCutOwn, dedup, nodupB, idx, AV.rows, AV.rowss, AV.mapO, AV.mapOs, firstRegion, gc, keptBoxes, keptRows, renameB, AV.boxes, AV.boxess, SN, evCutRow, Int.reduceToNat, id_eq, Int.reduceBEq, Int.reduceLE, Int.reduceLT, SS, one_ne2, TIS, MDS, wanted, numbered, plainC, plainS, evEq, eqK, evBox, evAlloc, evStore, evLoad, evFieldAddr, behind, takeVal, AV.cells, AV.isCell, ofCells, ofCell, Value.cells, Nat.reduceAdd, Nat.reduceEqDiff, Nat.reduceLT, Nat.reduceLeDiff, Nat.reduceMul, Nat.reduceSub, reduceIte]
    | true =>
      rw [hB] at c2
      have hlen : (joinAtoms a b).length ≤ 30 := by have h1 := isCond_w hA; have h2 := isCond_w hB; omega
      simp -implicitDefEqProofs only [Bool.true_and]
      generalize joinAtoms a b = at_ at *
      by_cases hn : at_.length ≤ 6
      · have hgt : decide (((at_.length : Nat) : Int) > 6) = false := decide_eq_false (by omega)
        have hgt2 : decide (6 < at_.length) = false := decide_eq_false (by omega)
        have hsl : ∀ t, evBin2 E.P .shl t (.int .i64 1) (.int .i64 ((at_.length : Nat) : Int)) = some (.int .i64 ((2 ^ at_.length : Nat) : Int)) := fun t => by
          have h1 : (((at_.length : Nat) : Int) < 0) = False := eq_false (by omega)
          simp -implicitDefEqProofs only [evBin2, evBin, evShift, h1, if_false, shl_small at_.length (by omega)]
        have hN : 2 ^ at_.length ≤ 64 := Nat.le_trans (Nat.pow_le_pow_right (by decide) hn) (by decide)
        have c5 := fun i hi => c5 i hn hi
        rw [hgt2, Bool.false_or, ← anyLoopG _ _ 0]
        generalize (2 : Nat) ^ at_.length = N at *
        simp -implicitDefEqProofs only [QS, QN, QG, QO, Go.Proofs.Try.f26, enc_Cond, c1, c2, c3, c4, hs1, hs2, hgt, hsl, evCall_rg, plan_26_3, ifEv_bool, gate_bool, pick_bool, if_false, if_true, look_cons, reduceCtorEq, evCall_mutOwn, evCall_mutAgg, evGive, giveRows, ioBoxes, mutArgs, roArgs, handArg, mutSlots, isPtrB, pairs, pairss, back_nil, back_cons, backO, backE, setBoxes, importB, mode_mut, mode_give, mode_io, mode_ro, List.zip_cons_cons, List.zip_nil_left, List.zip_nil_right, ite_self, ite_true, ite_false, finish_give, finish_mut1, finish_io0, finish_io1, finish_io2, finish_io3, finish_ioc, finI, finC, finW_ptr, SO, SH, frzO, frzE, AV.laid, AV.treeV, AV.treeC, St.laid, spent, AV.subs, AV.shut, AV.scal, AV.scals, evBuildSlice, elemsOf, zeroOK, evAppend, rowOf, noref, isRef, small, import_, AV.any, AV.anys, isPtr, finV, rename, noPtr, isBad, AV.isUndef, St.setRow, AV.shutV, rebuild, isAggV, evBuild, fillCells, evCutOwn, dedup, nodupB, idx, AV.rows, AV.rowss, AV.mapO, AV.mapOs, firstRegion, gc, keptBoxes, keptRows, renameB, AV.boxes, AV.boxess, SN, evCutRow, Int.reduceToNat, id_eq, Int.reduceBEq, Int.reduceLE, Int.reduceLT, SS, one_ne2, TIS, MDS, wanted, numbered, plainC, plainS, evEq, eqK, evBox, evAlloc, evStore, evLoad, evFieldAddr, behind, takeVal, AV.cells, AV.isCell, ofCells, ofCell, Value.cells, Nat.reduceAdd, Nat.reduceEqDiff, Nat.reduceLT, Nat.reduceLeDiff, Nat.reduceMul, Nat.reduceSub, reduceIte]
        rw [ev_loop]
        refine loop_list (Q := fun (g : Bool) z => thenEnd E.P _ _ 0 (thenEv E _ _ _ _ _ (outOf 0 z)) = some (.bool g, [])) (List.range N) (anyStepG fun i => evBy a at_ (valsOf at_.length i) && evBy b at_ (valsOf at_.length i)) (fun _ => false)
          (fun i _ => { sl := [(2, .ptr 0 0), (3, .ptr 1 0), (5, .own 0 false 45 4 (at_.map (Cond.enc true))), (25, .int .i64 (N : Nat)), (26, .int .i64 (i : Nat))], bx := [(0, [.int .i64 a.op, .int .i64 a.a, .int .i64 a.b, .sl true (a.args.map (Cond.enc true))]), (1, [.int .i64 b.op, .int .i64 b.a, .int .i64 b.b, .sl true (b.args.map (Cond.enc true))])], nx := 3, nt := 44 })
          (fun _ _ => True) () ?_ ?_ ?_ trivial ?_
        · intro _ _
          simp -implicitDefEqProofs only [QS, QN, QG, QO, List.length_range, SO, SH, frzO, frzE, AV.laid, AV.treeV, AV.treeC, St.laid, spent, AV.subs, AV.shut, AV.scal, AV.scals, evBuildSlice, elemsOf, zeroOK, evAppend, rowOf, noref, isRef, small, import_, AV.any, AV.anys, isPtr, finV, rename, noPtr, isBad, AV.isUndef, St.setRow, AV.shutV, rebuild, isAggV, evBuild, fillCells, evCutOwn, dedup, nodupB, idx, AV.rows, AV.rowss, AV.mapO, AV.mapOs, firstRegion, gc, keptBoxes, keptRows, renameB, AV.boxes, AV.boxess, leaf_some, isNormal, ifEv_bool, gate_bool, gateP_bool, gateQ_bool, pick_bool, SN, evCutRow, Int.reduceToNat, id_eq, Int.reduceBEq, Int.reduceLE, Int.reduceLT, SS, one_ne2, TIS, MDS, wanted, numbered, plainC, plainS, evEq, eqK, evBox, evAlloc, evStore, evLoad, evFieldAddr, behind, takeVal, AV.cells, AV.isCell, ofCells, ofCell, Value.cells, Nat.reduceAdd, Nat.reduceEqDiff, Nat.reduceLT, Nat.reduceLeDiff, Nat.reduceMul, Nat.reduceSub, reduceIte]
          repeat' (split <;> (rename_i h; (try simp -implicitDefEqProofs only [Bool.not_eq_true', Bool.not_eq_false', decide_eq_true_eq, decide_eq_false_iff_not] at h); (try simp -implicitDefEqProofs only [QS, QN, QG, QO, *, List.length_range, SO, SH, frzO, frzE, AV.laid, AV.treeV, AV.treeC, St.laid, spent, AV.subs, AV.shut, AV.scal, AV.scals, evBuildSlice, elemsOf, zeroOK, evAppend, rowOf, noref, isRef, small, import_, AV.any, AV.anys, isPtr, finV, rename, noPtr, isBad, AV.isUndef, St.setRow, AV.shutV, rebuild, isAggV, evBuild, fillCells, evCutOwn, dedup, nodupB, idx, AV.rows, AV.rowss, AV.mapO, AV.mapOs, firstRegion, gc, keptBoxes, keptRows, renameB, AV.boxes, AV.boxess, leaf_some, isNormal, ifEv_bool, gate_bool, gateP_bool, gateQ_bool, pick_bool, SN, evCutRow, Int.reduceToNat, id_eq, Int.reduceBEq, Int.reduceLE, Int.reduceLT, SS, one_ne2, TIS, MDS, wanted, numbered, plainC, plainS, evEq, eqK, evBox, evAlloc, evStore, evLoad, evFieldAddr, behind, takeVal, AV.cells, AV.isCell, ofCells, ofCell, Value.cells, Nat.reduceAdd, Nat.reduceEqDiff, Nat.reduceLT, Nat.reduceLeDiff, Nat.reduceMul, Nat.reduceSub, reduceIte])))
        · intro pre x r' _ hs' _
          obtain ⟨hxe, hp⟩ := range_at hs'
          have h5 : ((pre.length : Int) < (N : Int)) = True := eq_true (by omega)
          have hw1 : IntKind.i64.wrap ((pre.length : Int) + 1) = ((pre.length + 1 : Nat) : Int) := by rw [IntWalk.i64_in _ (by omega)]; omega
          clear hs'
          subst hxe
          have c8 := c5 pre.length (by omega)
          have c9 := c6 (valsOf at_.length pre.length)
          have c10 := c7 (valsOf at_.length pre.length)
          have hst : anyStepG (fun i => evBy a at_ (valsOf at_.length i) && evBy b at_ (valsOf at_.length i)) pre.length pre.length () = if (evBy a at_ (valsOf at_.length pre.length) && evBy b at_ (valsOf at_.length pre.length)) = true then .inl true else .inr () := rfl
          clear c5 c6 c7
          generalize evBy a at_ (valsOf at_.length pre.length) = e1 at *
          generalize evBy b at_ (valsOf at_.length pre.length) = e2 at *
          cases e1 <;> cases e2 <;> simp -implicitDefEqProofs only [Bool.and_self, Bool.and_true, Bool.and_false, Bool.false_eq_true, if_false, if_true] at hst
          all_goals
            simp -implicitDefEqProofs only [QS, QN, QG, QO, h5, hw1, c8, c9, c10, hst, scals_bools2, if_false, if_true, SO, SH, frzO, frzE, AV.laid, AV.treeV, AV.treeC, St.laid, spent, AV.subs, AV.shut, AV.scal, AV.scals, evBuildSlice, elemsOf, zeroOK, evAppend, rowOf, noref, isRef, small, import_, AV.any, AV.anys, isPtr, finV, rename, noPtr, isBad, AV.isUndef, St.setRow, AV.shutV, rebuild, isAggV, evBuild, fillCells, evCutOwn, dedup, nodupB, idx, AV.rows, AV.rowss, AV.mapO, AV.mapOs, firstRegion, gc, keptBoxes, keptRows, renameB, AV.boxes, AV.boxess, keep_26_7, leaf_some, isNormal, ifEv_bool, gate_bool, gateP_bool, gateQ_bool, pick_bool, SN, evCutRow, Int.reduceToNat, id_eq, Int.reduceBEq, Int.reduceLE, Int.reduceLT, SS, one_ne2, TIS, MDS, wanted, numbered, plainC, plainS, evEq, eqK, evBox, evAlloc, evStore, evLoad, evFieldAddr, behind, takeVal, AV.cells, AV.isCell, ofCells, ofCell, Value.cells, Nat.reduceAdd, Nat.reduceEqDiff, Nat.reduceLT, Nat.reduceLeDiff, Nat.reduceMul, Nat.reduceSub, reduceIte]
            repeat' (split <;> (rename_i h; (try simp -implicitDefEqProofs only [Bool.not_eq_true', Bool.not_eq_false', decide_eq_true_eq, decide_eq_false_iff_not] at h); (try simp -implicitDefEqProofs only [QS, QN, QG, QO, *, h5, hw1, c8, c9, c10, hst, scals_bools2, if_false, if_true, SO, SH, frzO, frzE, AV.laid, AV.treeV, AV.treeC, St.laid, spent, AV.subs, AV.shut, AV.scal, AV.scals, evBuildSlice, elemsOf, zeroOK, evAppend, rowOf, noref, isRef, small, import_, AV.any, AV.anys, isPtr, finV, rename, noPtr, isBad, AV.isUndef, St.setRow, AV.shutV, rebuild, isAggV, evBuild, fillCells, evCutOwn, dedup, nodupB, idx, AV.rows, AV.rowss, AV.mapO, AV.mapOs, firstRegion, gc, keptBoxes, keptRows, renameB, AV.boxes, AV.boxess, keep_26_7, leaf_some, isNormal, ifEv_bool, gate_bool, gateP_bool, gateQ_bool, pick_bool, SN, evCutRow, Int.reduceToNat, id_eq, Int.reduceBEq, Int.reduceLE, Int.reduceLT, SS, one_ne2, TIS, MDS, wanted, numbered, plainC, plainS, evEq, eqK, evBox, evAlloc, evStore, evLoad, evFieldAddr, behind, takeVal, AV.cells, AV.isCell, ofCells, ofCell, Value.cells, Nat.reduceAdd, Nat.reduceEqDiff, Nat.reduceLT, Nat.reduceLeDiff, Nat.reduceMul, Nat.reduceSub, reduceIte])))
        · simp; omega
        · simp -implicitDefEqProofs only [firstRegion]
          rw [keep_26_7]
          simp -implicitDefEqProofs only [QS, QN, QG, QO, SN, evCutRow, Int.reduceToNat, id_eq, Int.reduceBEq, Int.reduceLE, Int.reduceLT, SO, SH, frzO, frzE, AV.laid, AV.treeV, AV.treeC, St.laid, spent, AV.subs, AV.shut, AV.scal, AV.scals, evBuildSlice, elemsOf, zeroOK, evAppend, rowOf, noref, isRef, small, import_, AV.any, AV.anys, isPtr, finV, rename, noPtr, isBad, AV.isUndef, St.setRow, AV.shutV, rebuild, isAggV, evBuild, fillCells, evCutOwn, dedup, nodupB, idx, AV.rows, AV.rowss, AV.mapO, AV.mapOs, firstRegion, gc, keptBoxes, keptRows, renameB, AV.boxes, AV.boxess, SS, one_ne2, TIS, MDS, wanted, numbered, plainC, plainS, evEq, eqK, evBox, evAlloc, evStore, evLoad, evFieldAddr, behind, takeVal, AV.cells, AV.isCell, ofCells, ofCell, Value.cells, Nat.reduceAdd, Nat.reduceEqDiff, Nat.reduceLT, Nat.reduceLeDiff, Nat.reduceMul, Nat.reduceSub, reduceIte]
      · have hgt : decide (((at_.length : Nat) : Int) > 6) = true := decide_eq_true (by omega)
        have hgt2 : decide (6 < at_.length) = true := decide_eq_true (by omega)
        rw [hgt2, Bool.true_or]
        simp -implicitDefEqProofs only [QS, QN, QG, QO, Go.Proofs.Try.f26, enc_Cond, c1, c2, c3, c4, hs1, hs2, hgt, evCall_rg, plan_26_3, ifEv_bool, gate_bool, pick_bool, if_false, if_true, look_cons, reduceCtorEq, evCall_mutOwn, evCall_mutAgg, evGive, giveRows, ioBoxes, mutArgs, roArgs, handArg, mutSlots, isPtrB, pairs, pairss, back_nil, back_cons, backO, backE, setBoxes, importB, mode_mut, mode_give, mode_io, mode_ro, List.zip_cons_cons, List.zip_nil_left, List.zip_nil_right, ite_self, ite_true, ite_false, finish_give, finish_mut1, finish_io0, finish_io1, finish_io2, finish_io3, finish_ioc, finI, finC, finW_ptr, SO, SH, frzO, frzE, AV.laid, AV.treeV, AV.treeC, St.laid, spent, AV.subs, AV.shut, AV.scal, AV.scals, evBuildSlice, elemsOf, zeroOK, evAppend, rowOf, noref, isRef, small, import_, AV.any, AV.anys, isPtr, finV, rename, noPtr, isBad, AV.isUndef, St.setRow, AV.shutV, rebuild, isAggV, evBuild, fillCells, evCutOwn, dedup, nodupB, idx, AV.rows, AV.rowss, AV.mapO, AV.mapOs, firstRegion, gc, keptBoxes, keptRows, renameB, AV.boxes, AV.boxess, SN, evCutRow, Int.reduceToNat, id_eq, Int.reduceBEq, Int.reduceLE, Int.reduceLT, SS, one_ne2, TIS, MDS, wanted, numbered, plainC, plainS, evEq, eqK, evBox, evAlloc, evStore, evLoad, evFieldAddr, behind, takeVal, AV.cells, AV.isCell, ofCells, ofCell, Value.cells, Nat.reduceAdd, Nat.reduceEqDiff, Nat.reduceLT, Nat.reduceLeDiff, Nat.reduceMul, Nat.reduceSub, reduceIte]
theorem r_spec_l23Join {fl gl : Bool} (k : Nat) (s t : List Cond) (hk : 290271069732864 + 4 * (wl Cond.w s + wl Cond.w t) + 30 ≤ k) (hw : wl Cond.w s + wl Cond.w t ≤ 1099511627776) :
    run E noExt k 71 [.sl fl (s.map (Cond.enc fl)), .sl gl (t.map (Cond.enc gl))] [] = some (.own 0 false 45 4 ((gathers t (gathers s [])).map (Cond.enc true)), []) := by
  have hs1 := wl_length Cond.w s
  have ht1 := wl_length Cond.w t
  have hs : s.length ≤ 140737488355328 := by omega
  have ht : t.length ≤ 140737488355328 := by omega
  have c1 := fun (c : Cond) (hc : c ∈ s) out ho hl => r_spec_l15Leaves0 (fl := fl) c (k - 1) (by have := wl_mem (w := Cond.w) hc; omega) (by have := wl_mem (w := Cond.w) hc; omega) out ho hl
  have c2 := fun (c : Cond) (hc : c ∈ t) out ho hl => r_spec_l15Leaves0 (fl := gl) c (k - 1) (by have := wl_mem (w := Cond.w) hc; omega) (by have := wl_mem (w := Cond.w) hc; omega) out ho hl
  have hf := gathers_facts s []
  simp -implicitDefEqProofs only [List.length_nil] at hf
  obtain ⟨k, rfl⟩ : ∃ j, k = j + 1 := ⟨k - 1, by omega⟩
  rw [run_succ rfl rfl, body_eq (nt := 34) (fn := Go.Proofs.Try.f71) (by kernel_rfl) rfl rfl rfl rfl rfl rfl rfl rfl]
  simp -implicitDefEqProofs only [Nat.add_sub_cancel, enc_Cond] at c1 c2
  simp -implicitDefEqProofs only [QS, QN, QO, Go.Proofs.Try.f71, SO, SH, frzO, frzE, AV.laid, AV.treeV, AV.treeC, St.laid, spent, AV.subs, AV.shut, AV.scal, AV.scals, evBuildSlice, elemsOf, zeroOK, evAppend, rowOf, noref, isRef, small, import_, AV.any, AV.anys, isPtr, finV, rename, noPtr, isBad, AV.isUndef, St.setRow, AV.shutV, rebuild, isAggV, evBuild, fillCells, evCutOwn, dedup, nodupB, idx, AV.rows, AV.rowss, AV.mapO, AV.mapOs, SN, evCutRow, Int.reduceToNat, id_eq, Int.reduceBEq, Int.reduceLE, Int.reduceLT, SS, one_ne2, TIS, MDS, wanted, numbered, plainC, plainS, evEq, eqK, evBox, evAlloc, evStore, evLoad, evFieldAddr, behind, takeVal, AV.cells, AV.isCell, ofCells, ofCell, Value.cells, Nat.reduceAdd, Nat.reduceEqDiff, Nat.reduceLT, Nat.reduceLeDiff, Nat.reduceMul, Nat.reduceSub, reduceIte]
  rw [ev_loop]
  refine loop_list (Q := fun (g : List Cond) z => g = gathers s [] → thenEnd E.P _ _ 0 (thenEv E _ _ _ _ _ (outOf 0 z)) = some (.own 0 false 45 4 ((gathers t (gathers s [])).map (Cond.enc true)), [])) s (gStep gather) id
    (fun i b => { sl := [(0, .sl fl (s.map (Cond.enc fl))), (1, .sl gl (t.map (Cond.enc gl))), (5, .own 0 false 45 4 (b.map (Cond.enc true))), (6, .int .i64 (i : Nat))], bx := [], nx := 1, nt := 34 })
    (fun i b => Leaves b ∧ b.length + wl Cond.w (s.drop i) ≤ wl Cond.w s) [] ?_ ?_ ?_ ⟨leaves_nil, by simp⟩ ?_ (gLoop s 0 [])
  · intro b _
    simp -implicitDefEqProofs only [QS, QN, QO, leaf_some, isNormal, ifEv_bool, SO, SH, frzO, frzE, AV.laid, AV.treeV, AV.treeC, St.laid, spent, AV.subs, AV.shut, AV.scal, AV.scals, evBuildSlice, elemsOf, zeroOK, evAppend, rowOf, noref, isRef, small, import_, AV.any, AV.anys, isPtr, finV, rename, noPtr, isBad, AV.isUndef, St.setRow, AV.shutV, rebuild, isAggV, evBuild, fillCells, evCutOwn, dedup, nodupB, idx, AV.rows, AV.rowss, AV.mapO, AV.mapOs, SN, evCutRow, Int.reduceToNat, id_eq, Int.reduceBEq, Int.reduceLE, Int.reduceLT, SS, one_ne2, TIS, MDS, wanted, numbered, plainC, plainS, evEq, eqK, evBox, evAlloc, evStore, evLoad, evFieldAddr, behind, takeVal, AV.cells, AV.isCell, ofCells, ofCell, Value.cells, Nat.reduceAdd, Nat.reduceEqDiff, Nat.reduceLT, Nat.reduceLeDiff, Nat.reduceMul, Nat.reduceSub, reduceIte]
    intro hb
    subst hb
    rw [ev_loop]
    refine Eq.trans (loop_list (Q := fun (g : List Cond) z => thenEnd E.P _ _ 0 (thenEv E _ _ _ _ _ (outOf 2 z)) = some (.own 0 false 45 4 (g.map (Cond.enc true)), [])) t (gStep gather) id
      (fun i b => { sl := [(1, .sl gl (t.map (Cond.enc gl))), (5, .own 0 false 45 4 (b.map (Cond.enc true))), (7, .int .i64 (i : Nat))], bx := [], nx := 1, nt := 34 })
      (fun i b => Leaves b ∧ b.length + wl Cond.w (t.drop i) ≤ wl Cond.w s + wl Cond.w t) (gathers s []) ?_ ?_ (by omega) ⟨hf.1 leaves_nil, by rw [List.drop_zero]; omega⟩ ?_) ?_
    · intro b _
      simp -implicitDefEqProofs only [QS, QN, QG, QO, SO, SH, frzO, frzE, AV.laid, AV.treeV, AV.treeC, St.laid, spent, AV.subs, AV.shut, AV.scal, AV.scals, evBuildSlice, elemsOf, zeroOK, evAppend, rowOf, noref, isRef, small, import_, AV.any, AV.anys, isPtr, finV, rename, noPtr, isBad, AV.isUndef, St.setRow, AV.shutV, rebuild, isAggV, evBuild, fillCells, evCutOwn, dedup, nodupB, idx, AV.rows, AV.rowss, AV.mapO, AV.mapOs, firstRegion, gc, keptBoxes, keptRows, renameB, AV.boxes, AV.boxess, leaf_some, isNormal, ifEv_bool, gate_bool, gateP_bool, gateQ_bool, pick_bool, SN, evCutRow, Int.reduceToNat, id_eq, Int.reduceBEq, Int.reduceLE, Int.reduceLT, SS, one_ne2, TIS, MDS, wanted, numbered, plainC, plainS, evEq, eqK, evBox, evAlloc, evStore, evLoad, evFieldAddr, behind, takeVal, AV.cells, AV.isCell, ofCells, ofCell, Value.cells, Nat.reduceAdd, Nat.reduceEqDiff, Nat.reduceLT, Nat.reduceLeDiff, Nat.reduceMul, Nat.reduceSub, reduceIte]
      repeat' (split <;> (rename_i h; (try simp -implicitDefEqProofs only [Bool.not_eq_true', Bool.not_eq_false', decide_eq_true_eq, decide_eq_false_iff_not] at h); (try simp -implicitDefEqProofs only [QS, QN, QG, QO, *, SO, SH, frzO, frzE, AV.laid, AV.treeV, AV.treeC, St.laid, spent, AV.subs, AV.shut, AV.scal, AV.scals, evBuildSlice, elemsOf, zeroOK, evAppend, rowOf, noref, isRef, small, import_, AV.any, AV.anys, isPtr, finV, rename, noPtr, isBad, AV.isUndef, St.setRow, AV.shutV, rebuild, isAggV, evBuild, fillCells, evCutOwn, dedup, nodupB, idx, AV.rows, AV.rowss, AV.mapO, AV.mapOs, firstRegion, gc, keptBoxes, keptRows, renameB, AV.boxes, AV.boxess, leaf_some, isNormal, ifEv_bool, gate_bool, gateP_bool, gateQ_bool, pick_bool, SN, evCutRow, Int.reduceToNat, id_eq, Int.reduceBEq, Int.reduceLE, Int.reduceLT, SS, one_ne2, TIS, MDS, wanted, numbered, plainC, plainS, evEq, eqK, evBox, evAlloc, evStore, evLoad, evFieldAddr, behind, takeVal, AV.cells, AV.isCell, ofCells, ofCell, Value.cells, Nat.reduceAdd, Nat.reduceEqDiff, Nat.reduceLT, Nat.reduceLeDiff, Nat.reduceMul, Nat.reduceSub, reduceIte])))
    · intro pre c r b hs' ⟨hb1, hb2⟩
      have hx := (at_row hs' ht).1; have hc := (at_row hs' ht).2.1; have hlt := (at_row hs' ht).2.2.1; have hw1 := (at_row hs' ht).2.2.2.1; have hl9 := (at_row hs' ht).2.2.2.2
      have hd : t.drop pre.length = c :: r := by rw [hs']; simp
      have hd1 : t.drop (pre.length + 1) = r := by rw [hs']; simp
      have hg1 := gather_facts c b
      rw [hd] at hb2
      simp -implicitDefEqProofs only [wl] at hb2
      have c4 := c2 c hc b hb1 (by omega)
      have hI : Leaves (gather c b) ∧ (gather c b).length + wl Cond.w (t.drop (pre.length + 1)) ≤ wl Cond.w s + wl Cond.w t := by
        rw [hd1]
        exact ⟨hg1.1 hb1, by have := hg1.2; omega⟩
      clear hs' hd hd1
      have hs1 := scals_leaves hb1
      have hs2 := scals_leaves hI.1
      simp -implicitDefEqProofs only [QS, QN, QG, QO, enc_Cond, hx, hlt, hw1, c4, hs1, hs2, gStep, evCall_gr, look_cons, reduceCtorEq, evCall_mutOwn, evCall_mutAgg, evGive, giveRows, ioBoxes, mutArgs, roArgs, handArg, mutSlots, isPtrB, pairs, pairss, back_nil, back_cons, backO, backE, setBoxes, importB, mode_mut, mode_give, mode_io, mode_ro, List.zip_cons_cons, List.zip_nil_left, List.zip_nil_right, ite_self, ite_true, ite_false, finish_give, finish_mut1, finish_io0, finish_io1, finish_io2, finish_io3, finish_ioc, finI, finC, finW_ptr, SO, SH, frzO, frzE, AV.laid, AV.treeV, AV.treeC, St.laid, spent, AV.subs, AV.shut, AV.scal, AV.scals, evBuildSlice, elemsOf, zeroOK, evAppend, rowOf, noref, isRef, small, import_, AV.any, AV.anys, isPtr, finV, rename, noPtr, isBad, AV.isUndef, St.setRow, AV.shutV, rebuild, isAggV, evBuild, fillCells, evCutOwn, dedup, nodupB, idx, AV.rows, AV.rowss, AV.mapO, AV.mapOs, firstRegion, gc, keptBoxes, keptRows, renameB, AV.boxes, AV.boxess, keep_71_7, leaf_some, isNormal, ifEv_bool, gate_bool, gateP_bool, gateQ_bool, pick_bool, SN, evCutRow, Int.reduceToNat, id_eq, Int.reduceBEq, Int.reduceLE, Int.reduceLT, SS, one_ne2, TIS, MDS, wanted, numbered, plainC, plainS, evEq, eqK, evBox, evAlloc, evStore, evLoad, evFieldAddr, behind, takeVal, AV.cells, AV.isCell, ofCells, ofCell, Value.cells, Nat.reduceAdd, Nat.reduceEqDiff, Nat.reduceLT, Nat.reduceLeDiff, Nat.reduceMul, Nat.reduceSub, reduceIte]
      repeat' (split <;> (rename_i h; (try simp -implicitDefEqProofs only [Bool.not_eq_true', Bool.not_eq_false', decide_eq_true_eq, decide_eq_false_iff_not] at h); (try simp -implicitDefEqProofs only [QS, QN, QG, QO, *, enc_Cond, hx, hlt, hw1, c4, hs1, hs2, gStep, evCall_gr, look_cons, reduceCtorEq, evCall_mutOwn, evCall_mutAgg, evGive, giveRows, ioBoxes, mutArgs, roArgs, handArg, mutSlots, isPtrB, pairs, pairss, back_nil, back_cons, backO, backE, setBoxes, importB, mode_mut, mode_give, mode_io, mode_ro, List.zip_cons_cons, List.zip_nil_left, List.zip_nil_right, ite_self, ite_true, ite_false, finish_give, finish_mut1, finish_io0, finish_io1, finish_io2, finish_io3, finish_ioc, finI, finC, finW_ptr, SO, SH, frzO, frzE, AV.laid, AV.treeV, AV.treeC, St.laid, spent, AV.subs, AV.shut, AV.scal, AV.scals, evBuildSlice, elemsOf, zeroOK, evAppend, rowOf, noref, isRef, small, import_, AV.any, AV.anys, isPtr, finV, rename, noPtr, isBad, AV.isUndef, St.setRow, AV.shutV, rebuild, isAggV, evBuild, fillCells, evCutOwn, dedup, nodupB, idx, AV.rows, AV.rowss, AV.mapO, AV.mapOs, firstRegion, gc, keptBoxes, keptRows, renameB, AV.boxes, AV.boxess, keep_71_7, leaf_some, isNormal, ifEv_bool, gate_bool, gateP_bool, gateQ_bool, pick_bool, SN, evCutRow, Int.reduceToNat, id_eq, Int.reduceBEq, Int.reduceLE, Int.reduceLT, SS, one_ne2, TIS, MDS, wanted, numbered, plainC, plainS, evEq, eqK, evBox, evAlloc, evStore, evLoad, evFieldAddr, behind, takeVal, AV.cells, AV.isCell, ofCells, ofCell, Value.cells, Nat.reduceAdd, Nat.reduceEqDiff, Nat.reduceLT, Nat.reduceLeDiff, Nat.reduceMul, Nat.reduceSub, reduceIte])))
      exact hI
    · simp -implicitDefEqProofs only [firstRegion]
      rw [keep_71_7]
      simp -implicitDefEqProofs only [QS, QN, QG, QO, SN, evCutRow, Int.reduceToNat, id_eq, Int.reduceBEq, Int.reduceLE, Int.reduceLT, SO, SH, frzO, frzE, AV.laid, AV.treeV, AV.treeC, St.laid, spent, AV.subs, AV.shut, AV.scal, AV.scals, evBuildSlice, elemsOf, zeroOK, evAppend, rowOf, noref, isRef, small, import_, AV.any, AV.anys, isPtr, finV, rename, noPtr, isBad, AV.isUndef, St.setRow, AV.shutV, rebuild, isAggV, evBuild, fillCells, evCutOwn, dedup, nodupB, idx, AV.rows, AV.rowss, AV.mapO, AV.mapOs, firstRegion, gc, keptBoxes, keptRows, renameB, AV.boxes, AV.boxess, SS, one_ne2, TIS, MDS, wanted, numbered, plainC, plainS, evEq, eqK, evBox, evAlloc, evStore, evLoad, evFieldAddr, behind, takeVal, AV.cells, AV.isCell, ofCells, ofCell, Value.cells, Nat.reduceAdd, Nat.reduceEqDiff, Nat.reduceLT, Nat.reduceLeDiff, Nat.reduceMul, Nat.reduceSub, reduceIte]
    · rw [gLoop]
  · intro pre c r b hs' ⟨hb1, hb2⟩
    have hx := (at_row hs' hs).1; have hc := (at_row hs' hs).2.1; have hlt := (at_row hs' hs).2.2.1; have hw1 := (at_row hs' hs).2.2.2.1; have hl9 := (at_row hs' hs).2.2.2.2
    have hd : s.drop pre.length = c :: r := by rw [hs']; simp
    have hd1 : s.drop (pre.length + 1) = r := by rw [hs']; simp
    have hg1 := gather_facts c b
    rw [hd] at hb2
    simp -implicitDefEqProofs only [wl] at hb2
    have c4 := c1 c hc b hb1 (by omega)
    have hI : Leaves (gather c b) ∧ (gather c b).length + wl Cond.w (s.drop (pre.length + 1)) ≤ wl Cond.w s := by
      rw [hd1]
      exact ⟨hg1.1 hb1, by have := hg1.2; omega⟩
    clear hs' hd hd1
    have hs1 := scals_leaves hb1
    have hs2 := scals_leaves hI.1
    simp -implicitDefEqProofs only [QS, QN, QG, QO, enc_Cond, hx, hlt, hw1, c4, hs1, hs2, gStep, evCall_gr, look_cons, reduceCtorEq, evCall_mutOwn, evCall_mutAgg, evGive, giveRows, ioBoxes, mutArgs, roArgs, handArg, mutSlots, isPtrB, pairs, pairss, back_nil, back_cons, backO, backE, setBoxes, importB, mode_mut, mode_give, mode_io, mode_ro, List.zip_cons_cons, List.zip_nil_left, List.zip_nil_right, ite_self, ite_true, ite_false, finish_give, finish_mut1, finish_io0, finish_io1, finish_io2, finish_io3, finish_ioc, finI, finC, finW_ptr, SO, SH, frzO, frzE, AV.laid, AV.treeV, AV.treeC, St.laid, spent, AV.subs, AV.shut, AV.scal, AV.scals, evBuildSlice, elemsOf, zeroOK, evAppend, rowOf, noref, isRef, small, import_, AV.any, AV.anys, isPtr, finV, rename, noPtr, isBad, AV.isUndef, St.setRow, AV.shutV, rebuild, isAggV, evBuild, fillCells, evCutOwn, dedup, nodupB, idx, AV.rows, AV.rowss, AV.mapO, AV.mapOs, firstRegion, gc, keptBoxes, keptRows, renameB, AV.boxes, AV.boxess, keep_71_3, leaf_some, isNormal, ifEv_bool, gate_bool, gateP_bool, gateQ_bool, pick_bool, SN, evCutRow, Int.reduceToNat, id_eq, Int.reduceBEq, Int.reduceLE, Int.reduceLT, SS, one_ne2, TIS, MDS, wanted, numbered, plainC, plainS, evEq, eqK, evBox, evAlloc, evStore, evLoad, evFieldAddr, behind, takeVal, AV.cells, AV.isCell, ofCells, ofCell, Value.cells, Nat.reduceAdd, Nat.reduceEqDiff, Nat.reduceLT, Nat.reduceLeDiff, Nat.reduceMul, Nat.reduceSub, reduceIte]
    repeat' (split <;> (rename_i h; (try simp -implicitDefEqProofs only [Bool.not_eq_true', Bool.not_eq_false', decide_eq_true_eq, decide_eq_false_iff_not] at h); (try simp -implicitDefEqProofs only [QS, QN, QG, QO, *, enc_Cond, hx, hlt, hw1, c4, hs1, hs2, gStep, evCall_gr, look_cons, reduceCtorEq, evCall_mutOwn, evCall_mutAgg, evGive, giveRows, ioBoxes, mutArgs, roArgs, handArg, mutSlots, isPtrB, pairs, pairss, back_nil, back_cons, backO, backE, setBoxes, importB, mode_mut, mode_give, mode_io, mode_ro, List.zip_cons_cons, List.zip_nil_left, List.zip_nil_right, ite_self, ite_true, ite_false, finish_give, finish_mut1, finish_io0, finish_io1, finish_io2, finish_io3, finish_ioc, finI, finC, finW_ptr, SO, SH, frzO, frzE, AV.laid, AV.treeV, AV.treeC, St.laid, spent, AV.subs, AV.shut, AV.scal, AV.scals, evBuildSlice, elemsOf, zeroOK, evAppend, rowOf, noref, isRef, small, import_, AV.any, AV.anys, isPtr, finV, rename, noPtr, isBad, AV.isUndef, St.setRow, AV.shutV, rebuild, isAggV, evBuild, fillCells, evCutOwn, dedup, nodupB, idx, AV.rows, AV.rowss, AV.mapO, AV.mapOs, firstRegion, gc, keptBoxes, keptRows, renameB, AV.boxes, AV.boxess, keep_71_3, leaf_some, isNormal, ifEv_bool, gate_bool, gateP_bool, gateQ_bool, pick_bool, SN, evCutRow, Int.reduceToNat, id_eq, Int.reduceBEq, Int.reduceLE, Int.reduceLT, SS, one_ne2, TIS, MDS, wanted, numbered, plainC, plainS, evEq, eqK, evBox, evAlloc, evStore, evLoad, evFieldAddr, behind, takeVal, AV.cells, AV.isCell, ofCells, ofCell, Value.cells, Nat.reduceAdd, Nat.reduceEqDiff, Nat.reduceLT, Nat.reduceLeDiff, Nat.reduceMul, Nat.reduceSub, reduceIte])))
    exact hI
  · omega
  · simp -implicitDefEqProofs only [firstRegion]
    rw [keep_71_3]
    simp -implicitDefEqProofs only [QS, QN, QG, QO, SN, evCutRow, Int.reduceToNat, id_eq, Int.reduceBEq, Int.reduceLE, Int.reduceLT, SO, SH, frzO, frzE, AV.laid, AV.treeV, AV.treeC, St.laid, spent, AV.subs, AV.shut, AV.scal, AV.scals, evBuildSlice, elemsOf, zeroOK, evAppend, rowOf, noref, isRef, small, import_, AV.any, AV.anys, isPtr, finV, rename, noPtr, isBad, AV.isUndef, St.setRow, AV.shutV, rebuild, isAggV, evBuild, fillCells, evCutOwn, dedup, nodupB, idx, AV.rows, AV.rowss, AV.mapO, AV.mapOs, firstRegion, gc, keptBoxes, keptRows, renameB, AV.boxes, AV.boxess, SS, one_ne2, TIS, MDS, wanted, numbered, plainC, plainS, evEq, eqK, evBox, evAlloc, evStore, evLoad, evFieldAddr, behind, takeVal, AV.cells, AV.isCell, ofCells, ofCell, Value.cells, Nat.reduceAdd, Nat.reduceEqDiff, Nat.reduceLT, Nat.reduceLeDiff, Nat.reduceMul, Nat.reduceSub, reduceIte]
theorem shut_condc {o a b : Int} {fl : Bool} {xs : List AV} : (AV.agg [.int .i64 o, .int .i64 a, .int .i64 b, .sl fl xs]).shut = .agg [.int .i64 o, .int .i64 a, .int .i64 b, .sl fl xs] := rfl
theorem r_spec_CanBothHold (k : Nat) (hk : 884940186000000 + 30 ≤ k) (a b : Cond) (ha0 : a.w ≤ 1073741824) (hb0 : b.w ≤ 1073741824) :
    run E noExt k 24 [a.enc true, b.enc true] [] = some (.bool (canBoth a b), []) := by
  have ha : a.w ≤ 1099511627776 := by omega
  have hb : b.w ≤ 1099511627776 := by omega
  have c1 := r_spec_IsCond (fl := true) (k - 1) (by omega) a ha
  have c2 := r_spec_IsCond (fl := true) (k - 1) (by omega) b hb
  have hj := joinAtoms_facts a b
  have c3 := r_spec_l23Join (fl := true) (gl := true) (k - 1) [a] [b] (by simp -implicitDefEqProofs only [wl]; omega) (by simp -implicitDefEqProofs only [wl]; omega)
  have c4 := r_spec_l21Bit (k - 1) (by omega) (joinAtoms a b).length
  have c5 := r_spec_l21Values (k - 1) (by omega) (joinAtoms a b).length
  have c6 := fun v => r_spec_EvalBy (fl := true) (f2 := true) (f3 := true) (k - 1) (by omega) a (joinAtoms a b) v ha (by rw [wl_leaves hj.1]; omega)
  have c7 := fun v => r_spec_EvalBy (fl := true) (f2 := true) (f3 := true) (k - 1) (by omega) b (joinAtoms a b) v hb (by rw [wl_leaves hj.1]; omega)
  have hs1 := scals_leaves ((gather_facts a []).1 leaves_nil)
  have hs2 := scals_leaves hj.1
  unfold canBoth
  obtain ⟨k, rfl⟩ : ∃ j, k = j + 1 := ⟨k - 1, by omega⟩
  rw [run_succ rfl rfl, body_eq (nt := 45) (fn := Go.Proofs.Try.f24) (by kernel_rfl) rfl rfl rfl rfl rfl rfl rfl rfl]
  have e6 : ∀ v, (isCond a && a.eval fun c => (c.op == 1) || leafVal (joinAtoms a b) v c) = evBy a (joinAtoms a b) v := fun _ => rfl
  have e7 : ∀ v, (isCond b && b.eval fun c => (c.op == 1) || leafVal (joinAtoms a b) v c) = evBy b (joinAtoms a b) v := fun _ => rfl
  simp -implicitDefEqProofs only [e6] at c6
  simp -implicitDefEqProofs only [e7] at c7
  rw [show gathers [b] (gathers [a] []) = joinAtoms a b from by simp -implicitDefEqProofs only [gathers]; rfl] at c3
  simp -implicitDefEqProofs only [Nat.add_sub_cancel] at c5
  simp -implicitDefEqProofs only [Nat.add_sub_cancel, enc_Cond] at c1 c2 c6 c7
  simp -implicitDefEqProofs only [Nat.add_sub_cancel, List.map_cons, List.map_nil, enc_Cond] at c3 c4
  cases hA : isCond a with
  | false =>
    rw [hA] at c1
    simp -implicitDefEqProofs only [QS, QN, QG, QO, Go.Proofs.Try.f24, enc_Cond, c1, ifEv_bool, gate_bool, pick_bool, if_false, if_true, SO, SH, frzO, frzE, AV.laid, AV.treeV, AV.treeC, St.laid, spent, AV.subs, AV.shut, AV.scal, AV.scals, evBuildSlice, elemsOf, zeroOK, evAppend, rowOf, noref, isRef, small, import_, AV.any, AV.anys, isPtr, finV, rename, noPtr, isBad, AV.isUndef, St.setRow, AV.shutV, rebuild, isAggV, evBuild, fillCells, evCutOwn, dedup, nodupB, idx, AV.rows, AV.rowss, AV.mapO, AV.mapOs, firstRegion, gc, keptBoxes, keptRows, renameB, AV.boxes, AV.boxess, SN, evCutRow, Int.reduceToNat, id_eq, Int.reduceBEq, Int.reduceLE, Int.reduceLT, SS, one_ne2, TIS, MDS, wanted, numbered, plainC, plainS, evEq, eqK, evBox, evAlloc, evStore, evLoad, evFieldAddr, behind, takeVal, AV.cells, AV.isCell, ofCells, ofCell, Value.cells, Nat.reduceAdd, Nat.reduceEqDiff, Nat.reduceLT, Nat.reduceLeDiff, Nat.reduceMul, Nat.reduceSub, reduceIte]
  | true =>
    rw [hA] at c1
    cases hB : isCond b with
    | false =>
      rw [hB] at c2
      simp -implicitDefEqProofs only [QS, QN, QG, QO, Go.Proofs.Try.f24, enc_Cond, c1, c2, ifEv_bool, gate_bool, pick_bool, if_false, if_true, SO, SH, frzO, frzE, AV.laid, AV.treeV, AV.treeC, St.laid, spent, AV.subs, AV.shut, AV.scal, AV.scals, evBuildSlice, elemsOf, zeroOK, evAppend, rowOf, noref, isRef, small, import_, AV.any, AV.anys, isPtr, finV, rename, noPtr, isBad, AV.isUndef, St.setRow, AV.shutV, rebuild, isAggV, evBuild, fillCells, evCutOwn, dedup, nodupB, idx, AV.rows, AV.rowss, AV.mapO, AV.mapOs, firstRegion, gc, keptBoxes, keptRows, renameB, AV.boxes, AV.boxess, SN, evCutRow, Int.reduceToNat, id_eq, Int.reduceBEq, Int.reduceLE, Int.reduceLT, SS, one_ne2, TIS, MDS, wanted, numbered, plainC, plainS, evEq, eqK, evBox, evAlloc, evStore, evLoad, evFieldAddr, behind, takeVal, AV.cells, AV.isCell, ofCells, ofCell, Value.cells, Nat.reduceAdd, Nat.reduceEqDiff, Nat.reduceLT, Nat.reduceLeDiff, Nat.reduceMul, Nat.reduceSub, reduceIte]
    | true =>
      rw [hB] at c2
      have hlen : (joinAtoms a b).length ≤ 30 := by have h1 := isCond_w hA; have h2 := isCond_w hB; omega
      simp -implicitDefEqProofs only [Bool.true_and]
      generalize joinAtoms a b = at_ at *
      by_cases hn : at_.length ≤ 6
      · have hgt : decide (((at_.length : Nat) : Int) > 6) = false := decide_eq_false (by omega)
        have hgt2 : decide (6 < at_.length) = false := decide_eq_false (by omega)
        have c4 := c4 (by omega)
        have hN : 2 ^ at_.length ≤ 64 := Nat.le_trans (Nat.pow_le_pow_right (by decide) hn) (by decide)
        have c5 := fun i hi => c5 i hn hi
        rw [hgt2, Bool.false_or, ← anyLoopG _ _ 0]
        generalize (2 : Nat) ^ at_.length = N at *
        simp -implicitDefEqProofs only [QS, QN, QG, QO, Go.Proofs.Try.f24, enc_Cond, c1, c2, c3, hs1, hs2, hgt, shut_condc, shuts_Cond, ifEv_bool, gate_bool, pick_bool, if_false, if_true, look_cons, reduceCtorEq, evCall_mutOwn, evCall_mutAgg, evGive, giveRows, ioBoxes, mutArgs, roArgs, handArg, mutSlots, isPtrB, pairs, pairss, back_nil, back_cons, backO, backE, setBoxes, importB, mode_mut, mode_give, mode_io, mode_ro, List.zip_cons_cons, List.zip_nil_left, List.zip_nil_right, ite_self, ite_true, ite_false, finish_give, finish_mut1, finish_io0, finish_io1, finish_io2, finish_io3, finish_ioc, finI, finC, finW_ptr, SO, SH, frzO, frzE, AV.laid, AV.treeV, AV.treeC, St.laid, spent, AV.subs, AV.shut, AV.scal, AV.scals, evBuildSlice, elemsOf, zeroOK, evAppend, rowOf, noref, isRef, small, import_, AV.any, AV.anys, isPtr, finV, rename, noPtr, isBad, AV.isUndef, St.setRow, AV.shutV, rebuild, isAggV, evBuild, fillCells, evCutOwn, dedup, nodupB, idx, AV.rows, AV.rowss, AV.mapO, AV.mapOs, firstRegion, gc, keptBoxes, keptRows, renameB, AV.boxes, AV.boxess, SN, evCutRow, Int.reduceToNat, id_eq, Int.reduceBEq, Int.reduceLE, Int.reduceLT, SS, one_ne2, TIS, MDS, wanted, numbered, plainC, plainS, evEq, eqK, evBox, evAlloc, evStore, evLoad, evFieldAddr, behind, takeVal, AV.cells, AV.isCell, ofCells, ofCell, Value.cells, Nat.reduceAdd, Nat.reduceEqDiff, Nat.reduceLT, Nat.reduceLeDiff, Nat.reduceMul, Nat.reduceSub, reduceIte]
        rw [ev_loop]
        refine loop_list (Q := fun (g : Bool) z => thenEnd E.P _ _ 0 (thenEv E _ _ _ _ _ (outOf 0 z)) = some (.bool g, [])) (List.range N) (anyStepG fun i => evBy a at_ (valsOf at_.length i) && evBy b at_ (valsOf at_.length i)) (fun _ => false)
          (fun i _ => { sl := [(2, .ptr 0 0), (3, .ptr 1 0), (5, .own 0 false 45 4 (at_.map (Cond.enc true))), (6, .int .i64 (i : Nat))], bx := [(0, [.int .i64 a.op, .int .i64 a.a, .int .i64 a.b, .sl true (a.args.map (Cond.enc true))]), (1, [.int .i64 b.op, .int .i64 b.a, .int .i64 b.b, .sl true (b.args.map (Cond.enc true))])], nx := 3, nt := 45 })
          (fun _ _ => True) () ?_ ?_ ?_ trivial ?_
        · intro _ _
          simp -implicitDefEqProofs only [QS, QN, QG, QO, List.length_range, c4, SO, SH, frzO, frzE, AV.laid, AV.treeV, AV.treeC, St.laid, spent, AV.subs, AV.shut, AV.scal, AV.scals, evBuildSlice, elemsOf, zeroOK, evAppend, rowOf, noref, isRef, small, import_, AV.any, AV.anys, isPtr, finV, rename, noPtr, isBad, AV.isUndef, St.setRow, AV.shutV, rebuild, isAggV, evBuild, fillCells, evCutOwn, dedup, nodupB, idx, AV.rows, AV.rowss, AV.mapO, AV.mapOs, firstRegion, gc, keptBoxes, keptRows, renameB, AV.boxes, AV.boxess, leaf_some, isNormal, ifEv_bool, gate_bool, gateP_bool, gateQ_bool, pick_bool, SN, evCutRow, Int.reduceToNat, id_eq, Int.reduceBEq, Int.reduceLE, Int.reduceLT, SS, one_ne2, TIS, MDS, wanted, numbered, plainC, plainS, evEq, eqK, evBox, evAlloc, evStore, evLoad, evFieldAddr, behind, takeVal, AV.cells, AV.isCell, ofCells, ofCell, Value.cells, Nat.reduceAdd, Nat.reduceEqDiff, Nat.reduceLT, Nat.reduceLeDiff, Nat.reduceMul, Nat.reduceSub, reduceIte]
          repeat' (split <;> (rename_i h; (try simp -implicitDefEqProofs only [Bool.not_eq_true', Bool.not_eq_false', decide_eq_true_eq, decide_eq_false_iff_not] at h); (try simp -implicitDefEqProofs only [QS, QN, QG, QO, *, List.length_range, c4, SO, SH, frzO, frzE, AV.laid, AV.treeV, AV.treeC, St.laid, spent, AV.subs, AV.shut, AV.scal, AV.scals, evBuildSlice, elemsOf, zeroOK, evAppend, rowOf, noref, isRef, small, import_, AV.any, AV.anys, isPtr, finV, rename, noPtr, isBad, AV.isUndef, St.setRow, AV.shutV, rebuild, isAggV, evBuild, fillCells, evCutOwn, dedup, nodupB, idx, AV.rows, AV.rowss, AV.mapO, AV.mapOs, firstRegion, gc, keptBoxes, keptRows, renameB, AV.boxes, AV.boxess, leaf_some, isNormal, ifEv_bool, gate_bool, gateP_bool, gateQ_bool, pick_bool, SN, evCutRow, Int.reduceToNat, id_eq, Int.reduceBEq, Int.reduceLE, Int.reduceLT, SS, one_ne2, TIS, MDS, wanted, numbered, plainC, plainS, evEq, eqK, evBox, evAlloc, evStore, evLoad, evFieldAddr, behind, takeVal, AV.cells, AV.isCell, ofCells, ofCell, Value.cells, Nat.reduceAdd, Nat.reduceEqDiff, Nat.reduceLT, Nat.reduceLeDiff, Nat.reduceMul, Nat.reduceSub, reduceIte])))
        · intro pre x r' _ hs' _
          obtain ⟨hxe, hp⟩ := range_at hs'
          have h5 : ((pre.length : Int) < (N : Int)) = True := eq_true (by omega)
          have hw1 : IntKind.i64.wrap ((pre.length : Int) + 1) = ((pre.length + 1 : Nat) : Int) := by rw [IntWalk.i64_in _ (by omega)]; omega
          clear hs'
          subst hxe
          have c8 := c5 pre.length (by omega)
          have c9 := c6 (valsOf at_.length pre.length)
          have c10 := c7 (valsOf at_.length pre.length)
          have hst : anyStepG (fun i => evBy a at_ (valsOf at_.length i) && evBy b at_ (valsOf at_.length i)) pre.length pre.length () = if (evBy a at_ (valsOf at_.length pre.length) && evBy b at_ (valsOf at_.length pre.length)) = true then .inl true else .inr () := rfl
          clear c5 c6 c7
          generalize evBy a at_ (valsOf at_.length pre.length) = e1 at *
          generalize evBy b at_ (valsOf at_.length pre.length) = e2 at *
          cases e1 <;> cases e2 <;> simp -implicitDefEqProofs only [Bool.and_self, Bool.and_true, Bool.and_false, Bool.false_eq_true, if_false, if_true] at hst
          all_goals
            simp -implicitDefEqProofs only [QS, QN, QG, QO, h5, hw1, c8, c9, c10, c4, hst, scals_bools2, if_false, if_true, SO, SH, frzO, frzE, AV.laid, AV.treeV, AV.treeC, St.laid, spent, AV.subs, AV.shut, AV.scal, AV.scals, evBuildSlice, elemsOf, zeroOK, evAppend, rowOf, noref, isRef, small, import_, AV.any, AV.anys, isPtr, finV, rename, noPtr, isBad, AV.isUndef, St.setRow, AV.shutV, rebuild, isAggV, evBuild, fillCells, evCutOwn, dedup, nodupB, idx, AV.rows, AV.rowss, AV.mapO, AV.mapOs, firstRegion, gc, keptBoxes, keptRows, renameB, AV.boxes, AV.boxess, keep_24_7, leaf_some, isNormal, ifEv_bool, gate_bool, gateP_bool, gateQ_bool, pick_bool, SN, evCutRow, Int.reduceToNat, id_eq, Int.reduceBEq, Int.reduceLE, Int.reduceLT, SS, one_ne2, TIS, MDS, wanted, numbered, plainC, plainS, evEq, eqK, evBox, evAlloc, evStore, evLoad, evFieldAddr, behind, takeVal, AV.cells, AV.isCell, ofCells, ofCell, Value.cells, Nat.reduceAdd, Nat.reduceEqDiff, Nat.reduceLT, Nat.reduceLeDiff, Nat.reduceMul, Nat.reduceSub, reduceIte]
            repeat' (split <;> (rename_i h; (try simp -implicitDefEqProofs only [Bool.not_eq_true', Bool.not_eq_false', decide_eq_true_eq, decide_eq_false_iff_not] at h); (try simp -implicitDefEqProofs only [QS, QN, QG, QO, *, h5, hw1, c8, c9, c10, c4, hst, scals_bools2, if_false, if_true, SO, SH, frzO, frzE, AV.laid, AV.treeV, AV.treeC, St.laid, spent, AV.subs, AV.shut, AV.scal, AV.scals, evBuildSlice, elemsOf, zeroOK, evAppend, rowOf, noref, isRef, small, import_, AV.any, AV.anys, isPtr, finV, rename, noPtr, isBad, AV.isUndef, St.setRow, AV.shutV, rebuild, isAggV, evBuild, fillCells, evCutOwn, dedup, nodupB, idx, AV.rows, AV.rowss, AV.mapO, AV.mapOs, firstRegion, gc, keptBoxes, keptRows, renameB, AV.boxes, AV.boxess, keep_24_7, leaf_some, isNormal, ifEv_bool, gate_bool, gateP_bool, gateQ_bool, pick_bool, SN, evCutRow, Int.reduceToNat, id_eq, Int.reduceBEq, Int.reduceLE, Int.reduceLT, SS, one_ne2, TIS, MDS, wanted, numbered, plainC, plainS, evEq, eqK, evBox, evAlloc, evStore, evLoad, evFieldAddr, behind, takeVal, AV.cells, AV.isCell, ofCells, ofCell, Value.cells, Nat.reduceAdd, Nat.reduceEqDiff, Nat.reduceLT, Nat.reduceLeDiff, Nat.reduceMul, Nat.reduceSub, reduceIte])))
        · simp; omega
        · simp -implicitDefEqProofs only [firstRegion]
          rw [keep_24_7]
          simp -implicitDefEqProofs only [QS, QN, QG, QO, SN, evCutRow, Int.reduceToNat, id_eq, Int.reduceBEq, Int.reduceLE, Int.reduceLT, SO, SH, frzO, frzE, AV.laid, AV.treeV, AV.treeC, St.laid, spent, AV.subs, AV.shut, AV.scal, AV.scals, evBuildSlice, elemsOf, zeroOK, evAppend, rowOf, noref, isRef, small, import_, AV.any, AV.anys, isPtr, finV, rename, noPtr, isBad, AV.isUndef, St.setRow, AV.shutV, rebuild, isAggV, evBuild, fillCells, evCutOwn, dedup, nodupB, idx, AV.rows, AV.rowss, AV.mapO, AV.mapOs, firstRegion, gc, keptBoxes, keptRows, renameB, AV.boxes, AV.boxess, SS, one_ne2, TIS, MDS, wanted, numbered, plainC, plainS, evEq, eqK, evBox, evAlloc, evStore, evLoad, evFieldAddr, behind, takeVal, AV.cells, AV.isCell, ofCells, ofCell, Value.cells, Nat.reduceAdd, Nat.reduceEqDiff, Nat.reduceLT, Nat.reduceLeDiff, Nat.reduceMul, Nat.reduceSub, reduceIte]
      · have hgt : decide (((at_.length : Nat) : Int) > 6) = true := decide_eq_true (by omega)
        have hgt2 : decide (6 < at_.length) = true := decide_eq_true (by omega)
        rw [hgt2, Bool.true_or]
        simp -implicitDefEqProofs only [QS, QN, QG, QO, Go.Proofs.Try.f24, enc_Cond, c1, c2, c3, hs1, hs2, hgt, shut_condc, shuts_Cond, ifEv_bool, gate_bool, pick_bool, if_false, if_true, look_cons, reduceCtorEq, evCall_mutOwn, evCall_mutAgg, evGive, giveRows, ioBoxes, mutArgs, roArgs, handArg, mutSlots, isPtrB, pairs, pairss, back_nil, back_cons, backO, backE, setBoxes, importB, mode_mut, mode_give, mode_io, mode_ro, List.zip_cons_cons, List.zip_nil_left, List.zip_nil_right, ite_self, ite_true, ite_false, finish_give, finish_mut1, finish_io0, finish_io1, finish_io2, finish_io3, finish_ioc, finI, finC, finW_ptr, SO, SH, frzO, frzE, AV.laid, AV.treeV, AV.treeC, St.laid, spent, AV.subs, AV.shut, AV.scal, AV.scals, evBuildSlice, elemsOf, zeroOK, evAppend, rowOf, noref, isRef, small, import_, AV.any, AV.anys, isPtr, finV, rename, noPtr, isBad, AV.isUndef, St.setRow, AV.shutV, rebuild, isAggV, evBuild, fillCells, evCutOwn, dedup, nodupB, idx, AV.rows, AV.rowss, AV.mapO, AV.mapOs, firstRegion, gc, keptBoxes, keptRows, renameB, AV.boxes, AV.boxess, SN, evCutRow, Int.reduceToNat, id_eq, Int.reduceBEq, Int.reduceLE, Int.reduceLT, SS, one_ne2, TIS, MDS, wanted, numbered, plainC, plainS, evEq, eqK, evBox, evAlloc, evStore, evLoad, evFieldAddr, behind, takeVal, AV.cells, AV.isCell, ofCells, ofCell, Value.cells, Nat.reduceAdd, Nat.reduceEqDiff, Nat.reduceLT, Nat.reduceLeDiff, Nat.reduceMul, Nat.reduceSub, reduceIte]
end Go.Proofs.Ytbajieiodabdgaa.Flat
