/-
The draws: lists of epochs.
-/
import Derived.Test.YthjnobdeinodfaaEqDX
import Derived.Test.YthjnobdeinodfaaEqPE
set_option linter.unusedVariables false
set_option linter.unusedSimpArgs false
set_option maxRecDepth 10000
namespace Go.Proofs.Ythjnobdeinodfaa.Flat
theorem rule_w (bs : List Int) (i : Nat) (h : Int) : (ruleD bs i h).1.w ≤ 6 := by
  have h1 : ∀ i h, (condD bs 2 i h).1.w ≤ 6 := fun i h => condD_w bs 2 i h
  unfold ruleD ruleC ruleN Rule.w
  split <;> exact h1 _ _
theorem rulesN_w {bs : List Int} {b : List Rule × Nat × Int} : ∀ n, wl Rule.w (rulesN bs b n).1 ≤ wl Rule.w b.1 + 7 * n
  | 0 => by simp [rulesN]
  | n + 1 => by
    have h1 := rulesN_w (bs := bs) (b := b) n
    have h2 := rule_w bs (rulesN bs b n).2.1 (rulesN bs b n).2.2
    simp -implicitDefEqProofs only [rulesN, ruleStep, wl_append, wl]
    omega
theorem policyD_w {bs : List Int} {i : Nat} {h : Int} : wl Rule.w (policyD bs i h).1.rules ≤ 28 := by
  have := below_lt bs (n := 4) (by omega) (by omega) (belowI bs 5 i) (belowH 5 h)
  have h1 := rulesN_w (bs := bs) (b := rules0 bs i h) (1 + below1 bs 4 (belowI bs 5 i) (belowH 5 h)).toNat
  have h2 : wl Rule.w (rules0 bs i h).1 = 0 := rfl
  unfold policyD
  simp only
  omega
theorem anyCond_w (bs : List Int) (i : Nat) (h : Int) : (anyCondD bs i h).1.w ≤ 7 := by
  have h1 : (condD bs 2 i h).1.w ≤ 6 := condD_w bs 2 i h
  have h2 : ∀ i h, (leafD bs i h).1.w = 0 := fun i h => leaf_w (leafN_args _)
  unfold anyCondD
  rw [Cond.w_eq] at h1
  unfold anyCondN
  split
  · rw [Cond.w_eq]; simp only; omega
  · rw [Cond.w_eq]; simp only; omega
  · rw [Cond.w_eq]; simp only; omega
  · rw [Cond.w_eq]; simp -implicitDefEqProofs only [wl_append, wl, h2]; omega
  · rw [Cond.w_eq]; simp only; omega
theorem anyPolicy_w {bs : List Int} {i : Nat} {h : Int} : wl Rule.w (anyPolicyD bs i h).1.rules ≤ 100 := by
  have h1 := policyD_w (bs := bs) (i := i) (h := h)
  unfold anyPolicyD anyPolicyN
  split
  · simp only; omega
  · have h2 : ∀ i h, (oddRule bs i h).1.w ≤ 7 := fun i h => anyCond_w bs _ _
    simp -implicitDefEqProofs only [wl_append, wl]
    have := h2 (belowI bs 8 (policyD bs i h).2.1) (belowH 8 (policyD bs i h).2.2)
    omega
  · have h2 := rulesN_w (bs := bs) (b := ((policyD bs i h).1.rules, belowI bs 8 (policyD bs i h).2.1, belowH 8 (policyD bs i h).2.2)) (9 - (policyD bs i h).1.rules.length)
    simp only at h2 ⊢
    omega
  · simp only; omega
noncomputable def epochStep (bs : List Int) (b : List Epoch × Int × Nat × Int) : List Epoch × Int × Nat × Int :=
  (publish b.1 (pubE b.1 (pairsD bs (belowI bs 8 b.2.2.1) (belowH 8 b.2.2.2)).1 (policyD bs (pairsD bs (belowI bs 8 b.2.2.1) (belowH 8 b.2.2.2)).2.1 (pairsD bs (belowI bs 8 b.2.2.1) (belowH 8 b.2.2.2)).2.2).1.rules (IntKind.i64.wrap (b.2.1 + below1 bs 8 b.2.2.1 b.2.2.2))),
    IntKind.i64.wrap (b.2.1 + below1 bs 8 b.2.2.1 b.2.2.2),
    (policyD bs (pairsD bs (belowI bs 8 b.2.2.1) (belowH 8 b.2.2.2)).2.1 (pairsD bs (belowI bs 8 b.2.2.1) (belowH 8 b.2.2.2)).2.2).2.1,
    (policyD bs (pairsD bs (belowI bs 8 b.2.2.1) (belowH 8 b.2.2.2)).2.1 (pairsD bs (belowI bs 8 b.2.2.1) (belowH 8 b.2.2.2)).2.2).2.2)
noncomputable def epochsN (bs : List Int) (b : List Epoch × Int × Nat × Int) : Nat → List Epoch × Int × Nat × Int
  | 0 => b
  | n + 1 => epochStep bs (epochsN bs b n)
theorem epochsN_w {bs : List Int} {b : List Epoch × Int × Nat × Int} : ∀ n, wl Epoch.w (epochsN bs b n).1 ≤ wl Epoch.w b.1 + 40 * n
  | 0 => by simp [epochsN]
  | n + 1 => by
    have h1 := epochsN_w (bs := bs) (b := b) n
    simp -implicitDefEqProofs only [epochsN, epochStep]
    refine Nat.le_trans publish_w ?_
    rw [pubE_w]
    have h2 := pairsD_len (bs := bs) (i := belowI bs 8 (epochsN bs b n).2.2.1) (h := belowH 8 (epochsN bs b n).2.2.2)
    have h3 := policyD_w (bs := bs) (i := (pairsD bs (belowI bs 8 (epochsN bs b n).2.2.1) (belowH 8 (epochsN bs b n).2.2.2)).2.1) (h := (pairsD bs (belowI bs 8 (epochsN bs b n).2.2.1) (belowH 8 (epochsN bs b n).2.2.2)).2.2)
    omega
noncomputable def listD (bs : List Int) (i : Nat) (h : Int) : Draw (List Epoch) :=
  ((epochsN bs ([], 0, belowI bs 4 i, belowH 4 h) (below1 bs 4 i h).toNat).1, (epochsN bs ([], 0, belowI bs 4 i, belowH 4 h) (below1 bs 4 i h).toNat).2.2.1, (epochsN bs ([], 0, belowI bs 4 i, belowH 4 h) (below1 bs 4 i h).toNat).2.2.2)
theorem listD_w {bs : List Int} {i : Nat} {h : Int} : wl Epoch.w (listD bs i h).1 ≤ 120 := by
  have := below_lt bs (n := 4) (by omega) (by omega) i h
  have h1 := epochsN_w (bs := bs) (b := ([], 0, belowI bs 4 i, belowH 4 h)) (below1 bs 4 i h).toNat
  have h2 : wl Epoch.w ([] : List Epoch) = 0 := rfl
  unfold listD
  simp only at h1 ⊢
  omega
theorem r_spec_l24List {fl : Bool} (k : Nat) (hk : 290271069732864 + 18 ≤ k) (bs : List Int) (hb : bs.length ≤ 140737488355328) (i : Nat) (h : Int) :
    run E noExt k 14 [.ptr 0 0] [[.sl fl (bs.map byteA), .int .i64 (i : Nat), .int .i64 h]] = some (.own 0 false 39 5 ((listD bs i h).1.map Epoch.tencS), [[.sl fl (bs.map byteA), .int .i64 ((listD bs i h).2.1 : Nat), .int .i64 (listD bs i h).2.2]]) := by
  have c1 := fun n i h => r_spec_l1Below (fl := fl) (k - 1) (by omega) bs hb n i h
  have c2 := fun i h => r_spec_l14Pairs (fl := fl) (k - 1) (by omega) bs hb i h
  have c3 := fun i h => r_spec_l19Policy (fl := fl) (k - 1) (by omega) bs hb i h
  have c4 := fun l pairs rules t hw => r_spec_PublishEpoch (k - 1) (by omega) l pairs rules t hw
  have hlt := below_lt bs (n := 4) (by omega) (by omega) i h
  obtain ⟨k, rfl⟩ : ∃ j, k = j + 1 := ⟨k - 1, by omega⟩
  rw [run_succ rfl rfl, body_eq (nt := 29) (fn := Go.Proofs.Try.f14) (by kernel_rfl) rfl rfl rfl rfl rfl rfl rfl rfl]
  simp -implicitDefEqProofs only [Nat.add_sub_cancel] at c1 c2 c3 c4
  unfold listD
  generalize hd : below1 bs 4 i h = d at *
  obtain ⟨m, rfl⟩ : ∃ m : Nat, d = (m : Int) := ⟨d.toNat, by omega⟩
  simp -implicitDefEqProofs only [Int.toNat_natCast]
  simp -implicitDefEqProofs only [QS, QN, QG, QO, Go.Proofs.Try.f14, c1, hd, rows_argsR, boxes_argsR, ↓isCell_argsR, cells_argsR, cellsX_agg, cellsX_int, cellsX_bool, cellsX_str, cellsX_nils, cellsX_sl, cellsX_own, cellsX_ptr, cellsX_cptr, cellsX_undef, dedup_rowsD, nodup_rowsD, all_rowsD, all_rowsT, small_rowsD, bad_argsR, ptr_argsR, mapO_argsR, imp_argsR, lend_argsR4, shut_argsR, mem_rowsD, allmem_rowsD, after_D, freeze_ite, frzB_argsR, away_argsR, calm_argsR, opS_call, slidM_io1, slidM_io2, away_F, away_ptr, away_int, away_bool, away_nils, away_undef, away_sl, away_agg, away_own, look_nil, evCall_io1, evCall_io2, evCall_io3, evCall_io4, finJ_1, finJ_2, finJ_3, finJ_4, finJ_int, finJ_bool, finJ_str, finJ_nils, finJ_agg, finJ_own, finJ_sl, finJ_tup, look_cons, reduceCtorEq, evCall_mutOwn, evCall_mutAgg, evGive, giveRows, ioBoxes, mutArgs, roArgs, handArg, mutSlots, isPtrB, pairs, pairss, back_nil, back_cons, backO, backE, setBoxes, importB, mode_mut, mode_give, mode_io, mode_ro, List.zip_cons_cons, List.zip_nil_left, List.zip_nil_right, ite_self, ite_true, ite_false, finish_give, finish_mut1, finish_io0, finish_io2, finish_io3, finish_ioc, finI, finC, finW_ptr, SO, SH, frzO, frzE, AV.laid, AV.treeV, AV.treeC, St.laid, spent, AV.subs, AV.shut, AV.scal, AV.scals, evBuildSlice, elemsOf, zeroOK, evAppend, rowOf, noref, isRef, small, import_, AV.any, AV.anys, isPtr, finV, rename, noPtr, isBad, AV.isUndef, St.setRow, AV.shutV, rebuild, isAggV, evBuild, fillCells, evCutOwn, dedup, nodupB, idx, AV.rows, AV.rowss, AV.mapO, AV.mapOs, firstRegion, gc, keptBoxes, keptRows, renameB, AV.boxes, AV.boxess, SN, evCutRow, Int.reduceToNat, id_eq, Int.reduceBEq, Int.reduceLE, Int.reduceLT, SS, one_ne2, num_ne2, TIS, MDS, wanted, numbered, plainC, plainS, evEq, eqK, evBox, evAlloc, evStore, evLoad, evFieldAddr, behind, takeVal, AV.cells, AV.isCell, ofCells, ofCell, Value.cells, Nat.reduceAdd, Nat.reduceEqDiff, Nat.reduceLT, Nat.reduceLeDiff, Nat.reduceMul, Nat.reduceSub, reduceIte]
  rw [ev_loop]
  refine Eq.trans (loop_list (Q := fun (_ : Unit) x => thenEnd E.P _ _ 1 (thenEv E _ _ _ _ _ (outOf 0 x)) = some (.own 0 false 39 5 ((epochsN bs ([], 0, belowI bs 4 i, belowH 4 h) m).1.map Epoch.tencS), [[.sl fl (bs.map byteA), .int .i64 ((epochsN bs ([], 0, belowI bs 4 i, belowH 4 h) m).2.2.1 : Nat), .int .i64 (epochsN bs ([], 0, belowI bs 4 i, belowH 4 h) m).2.2.2]])) (List.range m) (fun _ _ _ => .inr ()) id
    (fun j _ => { sl := [(0, .ptr 0 0), (3, .own 0 false 39 5 ((epochsN bs ([], 0, belowI bs 4 i, belowH 4 h) j).1.map Epoch.tencS)), (4, .int .i64 (epochsN bs ([], 0, belowI bs 4 i, belowH 4 h) j).2.1), (5, .int .i64 (((m - j : Nat) : Int)))], bx := [(0, [.sl fl (bs.map byteA), .int .i64 ((epochsN bs ([], 0, belowI bs 4 i, belowH 4 h) j).2.2.1 : Nat), .int .i64 (epochsN bs ([], 0, belowI bs 4 i, belowH 4 h) j).2.2.2])], nx := 2, nt := 29 }) (fun _ _ => True) () ?_ ?_ (by simp; omega) trivial ?_) ?_
  · intro _ _
    rw [List.length_range, Nat.sub_self]
    have h0 : ¬ (0 : Int) < ((0 : Nat) : Int) := by omega
    simp -implicitDefEqProofs only [QS, QN, QG, QO, h0, rows_rowQ, boxes_rowQ, ↓isCell_rowQ, cells_rowQ, dedup_rowsQ, nodup_rowsQ, all_rowsQ, allT_rowsQ, small_rowsQ, bad_rowQ, ptr_rowQ, away_rowQ, mapO_rowQ, imp_rowQ, lend_rowQ, shut_rowQ, mem_rowsQ, calm_rowQ, allD_rowsQ, allE_rowsQ, frzD_rowQ, frzB_rowQ, freezeD_all, rows_argsR, boxes_argsR, ↓isCell_argsR, cells_argsR, cellsX_agg, cellsX_int, cellsX_bool, cellsX_str, cellsX_nils, cellsX_sl, cellsX_own, cellsX_ptr, cellsX_cptr, cellsX_undef, dedup_rowsD, nodup_rowsD, all_rowsD, all_rowsT, small_rowsD, bad_argsR, ptr_argsR, mapO_argsR, imp_argsR, lend_argsR4, shut_argsR, mem_rowsD, allmem_rowsD, after_D, freeze_ite, frzB_argsR, away_argsR, calm_argsR, opS_call, slidM_io1, slidM_io2, away_F, away_ptr, away_int, away_bool, away_nils, away_undef, away_sl, away_agg, away_own, look_nil, evCall_io1, evCall_io2, evCall_io3, evCall_io4, finJ_1, finJ_2, finJ_3, finJ_4, finJ_int, finJ_bool, finJ_str, finJ_nils, finJ_agg, finJ_own, finJ_sl, finJ_tup, look_cons, reduceCtorEq, evCall_mutOwn, evCall_mutAgg, evGive, giveRows, ioBoxes, mutArgs, roArgs, handArg, mutSlots, isPtrB, pairs, pairss, back_nil, back_cons, backO, backE, setBoxes, importB, mode_mut, mode_give, mode_io, mode_ro, List.zip_cons_cons, List.zip_nil_left, List.zip_nil_right, ite_self, ite_true, ite_false, finish_give, finish_mut1, finish_io0, finish_io2, finish_io3, finish_ioc, finI, finC, finW_ptr, SO, SH, frzO, frzE, AV.laid, AV.treeV, AV.treeC, St.laid, spent, AV.subs, AV.shut, AV.scal, AV.scals, evBuildSlice, elemsOf, zeroOK, noref, isRef, small, import_, AV.any, AV.anys, isPtr, finV, rename, noPtr, isBad, AV.isUndef, St.setRow, AV.shutV, rebuild, isAggV, evBuild, fillCells, evCutOwn, dedup, nodupB, idx, AV.rows, AV.rowss, AV.mapO, AV.mapOs, firstRegion, gc, keptBoxes, keptRows, renameB, AV.boxes, AV.boxess, leaf_some, isNormal, ifEv_bool, gate_bool, gateP_bool, gateQ_bool, pick_bool, SN, evCutRow, Int.reduceToNat, id_eq, Int.reduceBEq, Int.reduceLE, Int.reduceLT, SS, one_ne2, num_ne2, TIS, MDS, wanted, numbered, plainC, plainS, evEq, eqK, evBox, evAlloc, evStore, evLoad, evFieldAddr, behind, takeVal, AV.isCell, ofCells, ofCell, Value.cells, Nat.reduceAdd, Nat.reduceEqDiff, Nat.reduceLT, Nat.reduceLeDiff, Nat.reduceMul, Nat.reduceSub, reduceIte]
    try trace_state
  · intro pre z r _ hs' _
    have hpl : pre.length < m := by have := congrArg List.length hs'; simp at this; omega
    clear hs'
    have hp0 : (0 : Int) < ((m - pre.length : Nat) : Int) := by omega
    have hw1 : IntKind.i64.wrap (((m - pre.length : Nat) : Int) - 1) = ((m - (pre.length + 1) : Nat) : Int) := by rw [IntWalk.i64_in _ (by omega)]; omega
    have hwt := epochsN_w (bs := bs) (b := ([], 0, belowI bs 4 i, belowH 4 h)) pre.length
    have h22 : wl Epoch.w ([] : List Epoch) = 0 := rfl
    simp -implicitDefEqProofs only [epochsN]
    generalize epochsN bs ([], 0, belowI bs 4 i, belowH 4 h) pre.length = b at *
    have h2 := pairsD_len (bs := bs) (i := belowI bs 8 b.2.2.1) (h := belowH 8 b.2.2.2)
    have h3 := policyD_w (bs := bs) (i := (pairsD bs (belowI bs 8 b.2.2.1) (belowH 8 b.2.2.2)).2.1) (h := (pairsD bs (belowI bs 8 b.2.2.1) (belowH 8 b.2.2.2)).2.2)
    have c5 := c4 b.1 (pairsD bs (belowI bs 8 b.2.2.1) (belowH 8 b.2.2.2)).1 (policyD bs (pairsD bs (belowI bs 8 b.2.2.1) (belowH 8 b.2.2.2)).2.1 (pairsD bs (belowI bs 8 b.2.2.1) (belowH 8 b.2.2.2)).2.2).1.rules (IntKind.i64.wrap (b.2.1 + below1 bs 8 b.2.2.1 b.2.2.2)) (by rw [pubE_w]; simp only at hwt; omega)
    simp -implicitDefEqProofs only [epochStep]
    generalize publish b.1 (pubE b.1 (pairsD bs (belowI bs 8 b.2.2.1) (belowH 8 b.2.2.2)).1 (policyD bs (pairsD bs (belowI bs 8 b.2.2.1) (belowH 8 b.2.2.2)).2.1 (pairsD bs (belowI bs 8 b.2.2.1) (belowH 8 b.2.2.2)).2.2).1.rules (IntKind.i64.wrap (b.2.1 + below1 bs 8 b.2.2.1 b.2.2.2))) = L' at *
    simp -implicitDefEqProofs only [QS, QN, QG, QO, op_field, evField, hp0, hw1, c1, c2, c3, c5, tscals_S, tshuts_S, shuts_Includes, rows_rowQ, boxes_rowQ, ↓isCell_rowQ, cells_rowQ, dedup_rowsQ, nodup_rowsQ, all_rowsQ, allT_rowsQ, small_rowsQ, bad_rowQ, ptr_rowQ, away_rowQ, mapO_rowQ, imp_rowQ, lend_rowQ, shut_rowQ, mem_rowsQ, calm_rowQ, allD_rowsQ, allE_rowsQ, frzD_rowQ, frzB_rowQ, freezeD_all, rows_argsR, boxes_argsR, ↓isCell_argsR, cells_argsR, cellsX_agg, cellsX_int, cellsX_bool, cellsX_str, cellsX_nils, cellsX_sl, cellsX_own, cellsX_ptr, cellsX_cptr, cellsX_undef, dedup_rowsD, nodup_rowsD, all_rowsD, all_rowsT, small_rowsD, bad_argsR, ptr_argsR, mapO_argsR, imp_argsR, lend_argsR4, shut_argsR, mem_rowsD, allmem_rowsD, after_D, freeze_ite, frzB_argsR, away_argsR, calm_argsR, opS_call, slidM_io1, slidM_io2, away_F, away_ptr, away_int, away_bool, away_nils, away_undef, away_sl, away_agg, away_own, look_nil, evCall_io1, evCall_io2, evCall_io3, evCall_io4, finJ_1, finJ_2, finJ_3, finJ_4, finJ_int, finJ_bool, finJ_str, finJ_nils, finJ_agg, finJ_own, finJ_sl, finJ_tup, look_cons, reduceCtorEq, evCall_mutOwn, evCall_mutAgg, evGive, giveRows, ioBoxes, mutArgs, roArgs, handArg, mutSlots, isPtrB, pairs, pairss, back_nil, back_cons, backO, backE, setBoxes, importB, mode_mut, mode_give, mode_io, mode_ro, List.zip_cons_cons, List.zip_nil_left, List.zip_nil_right, ite_self, ite_true, ite_false, finish_give, finish_mut1, finish_io0, finish_io2, finish_io3, finish_ioc, finI, finC, finW_ptr, SO, SH, frzO, frzE, AV.laid, AV.treeV, AV.treeC, St.laid, spent, AV.subs, AV.shut, AV.scal, AV.scals, evBuildSlice, elemsOf, zeroOK, noref, isRef, small, import_, AV.any, AV.anys, isPtr, finV, rename, noPtr, isBad, AV.isUndef, St.setRow, AV.shutV, rebuild, isAggV, evBuild, fillCells, evCutOwn, dedup, nodupB, idx, AV.rows, AV.rowss, AV.mapO, AV.mapOs, firstRegion, gc, keptBoxes, keptRows, renameB, AV.boxes, AV.boxess, keep_14_4, leaf_some, isNormal, ifEv_bool, gate_bool, gateP_bool, gateQ_bool, pick_bool, SN, evCutRow, Int.reduceToNat, id_eq, Int.reduceBEq, Int.reduceLE, Int.reduceLT, SS, one_ne2, num_ne2, TIS, MDS, wanted, numbered, plainC, plainS, evEq, eqK, evBox, evAlloc, evStore, evLoad, evFieldAddr, behind, takeVal, AV.isCell, ofCells, ofCell, Value.cells, Nat.reduceAdd, Nat.reduceEqDiff, Nat.reduceLT, Nat.reduceLeDiff, Nat.reduceMul, Nat.reduceSub, reduceIte]
    try trace_state
  · simp -implicitDefEqProofs only [firstRegion]
    rw [keep_14_4]
    simp -implicitDefEqProofs only [QS, QN, QG, QO, epochsN, Nat.sub_zero, SN, evCutRow, Int.reduceToNat, id_eq, Int.reduceBEq, Int.reduceLE, Int.reduceLT, SO, SH, frzO, frzE, AV.laid, AV.treeV, AV.treeC, St.laid, spent, AV.subs, AV.shut, AV.scal, AV.scals, evBuildSlice, elemsOf, zeroOK, evAppend, rowOf, noref, isRef, small, import_, AV.any, AV.anys, isPtr, finV, rename, noPtr, isBad, AV.isUndef, St.setRow, AV.shutV, rebuild, isAggV, evBuild, fillCells, evCutOwn, dedup, nodupB, idx, AV.rows, AV.rowss, AV.mapO, AV.mapOs, firstRegion, gc, keptBoxes, keptRows, renameB, AV.boxes, AV.boxess, SS, one_ne2, num_ne2, TIS, MDS, wanted, numbered, plainC, plainS, evEq, eqK, evBox, evAlloc, evStore, evLoad, evFieldAddr, behind, takeVal, AV.cells, AV.isCell, ofCells, ofCell, Value.cells, Nat.reduceAdd, Nat.reduceEqDiff, Nat.reduceLT, Nat.reduceLeDiff, Nat.reduceMul, Nat.reduceSub, reduceIte]
    try trace_state
  · rfl
end Go.Proofs.Ythjnobdeinodfaa.Flat
