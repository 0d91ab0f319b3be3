/-
A diagram built from a table: the reference's.
-/
import Derived.Test.YtbajieiodabdgaaEqFA
set_option linter.unusedVariables false
set_option linter.unusedSimpArgs false
set_option maxRecDepth 10000
namespace Go.Proofs.Ytbajieiodabdgaa.Flat
theorem bldJoin_eq (a : Nat) (lo hi : Int) (ns2 : List Choice) (ix : Int) (h : indexBy (fun c => decide ((⟨(a : Nat), lo, hi⟩ : Choice) = c)) 0 ns2 = ix) :
    bldJoin a lo hi ns2 = if (lo == hi) = true then (lo, ns2) else (if 0 ≤ ix then ix else (ns2.length : Nat), if 0 ≤ ix then ns2 else ns2 ++ [⟨(a : Nat), lo, hi⟩]) := by
  unfold bldJoin
  rw [h]
  split
  · rfl
  · split <;> rfl
set_option maxHeartbeats 2000000 in
theorem r_spec_l21Build0 {fl : Bool} (table : List Bool) (n : Nat) (hn : n ≤ 6) (ht : table.length = 2 ^ n) (root : Int) :
    ∀ (m a : Nat) (ha : a + m = n) (k : Nat) (hk : 281474976710656 + 10 + m ≤ k) (g : Nat) (hg : g < 2 ^ a) (ns : List Choice) (hns : ns.length + 2 ^ m ≤ 1000),
    run E noExt k 128 [.ptr 0 0, .sl fl (table.map AV.bool), .int .i64 (a : Nat), .int .i64 (g : Nat)] [[.int .i64 (n : Nat), encR 0 ns, .int .i64 root]] =
      some (.int .i64 (bld table m a g ns).1, [[.int .i64 (n : Nat), encR 0 (bld table m a g ns).2, .int .i64 root]])
  | 0, a, ha, k, hk, g, hg, ns, hns => by
    obtain rfl : a = n := by omega
    have hgl : g < table.length := by rw [ht]; simpa using hg
    have hx : table[g]? = some (table.getD g false) := by rw [List.getD_eq_getElem?_getD, List.getElem?_eq_getElem hgl]; rfl
    have hlt : ((g : Nat) : Int) < ((table.length : Nat) : Int) := by omega
    obtain ⟨k, rfl⟩ : ∃ j, k = j + 1 := ⟨k - 1, by omega⟩
    rw [run_succ rfl rfl, body_eq (nt := 81) (fn := Go.Proofs.Try.f128) (by kernel_rfl) rfl rfl rfl rfl rfl rfl rfl rfl]
    simp -implicitDefEqProofs only [bld]
    generalize table.getD g false = v at hx
    cases v
    all_goals
      simp -implicitDefEqProofs only [QS, QN, QG, QO, Go.Proofs.Try.f128, hx, hlt, rows_encR, boxes_encR, len_rowsN, dedup_rowsN, nodup_rowsN, all_rowsN, any_encR, mapO_encR, look_nil, finJ_1, finJ_2, finJ_3, finJ_4, finJ_int, finJ_bool, finJ_str, finJ_nils, finJ_agg, finJ_own, finJ_sl, finJ_tup, look_cons, reduceCtorEq, evCall_mutOwn, evCall_mutAgg, evGive, giveRows, ioBoxes, mutArgs, roArgs, handArg, mutSlots, isPtrB, pairs, pairss, back_nil, back_cons, backO, backE, setBoxes, importB, mode_mut, mode_give, mode_io, mode_ro, List.zip_cons_cons, List.zip_nil_left, List.zip_nil_right, ite_self, ite_true, ite_false, finish_give, finish_mut1, finish_io0, finish_io2, finish_io3, finish_ioc, finI, finC, finW_ptr, ifEv_bool, if_false, if_true, SO, SH, frzO, frzE, AV.laid, AV.treeV, AV.treeC, St.laid, spent, AV.subs, AV.shut, AV.scal, AV.scals, evBuildSlice, elemsOf, zeroOK, evAppend, rowOf, noref, isRef, small, import_, AV.any, AV.anys, isPtr, finV, rename, noPtr, isBad, AV.isUndef, St.setRow, AV.shutV, rebuild, isAggV, evBuild, fillCells, evCutOwn, dedup, nodupB, idx, AV.rows, AV.rowss, AV.mapO, AV.mapOs, firstRegion, gc, keptBoxes, keptRows, renameB, AV.boxes, AV.boxess, SN, evCutRow, Int.reduceToNat, id_eq, Int.reduceBEq, Int.reduceLE, Int.reduceLT, SS, one_ne2, num_ne2, TIS, MDS, wanted, numbered, plainC, plainS, evEq, eqK, evBox, evAlloc, evStore, evLoad, evFieldAddr, behind, takeVal, AV.cells, AV.isCell, ofCells, ofCell, Value.cells, Nat.reduceAdd, Nat.reduceEqDiff, Nat.reduceLT, Nat.reduceLeDiff, Nat.reduceMul, Nat.reduceSub, reduceIte]
  | m + 1, a, ha, k, hk, g, hg, ns, hns => by
    have hpm : 0 < 2 ^ m := Nat.pow_pos (by decide)
    have hps : 2 ^ (m + 1) = 2 * 2 ^ m := by rw [Nat.pow_succ]; omega
    have hpa : 2 ^ (a + 1) = 2 * 2 ^ a := by rw [Nat.pow_succ]; omega
    have hl1 := bld_len table m (a + 1) g ns
    have hl2 := bld_len table m (a + 1) (g + 2 ^ a) (bld table m (a + 1) g ns).2
    have c1 := r_spec_l21Build0 (fl := fl) table n hn ht root m (a + 1) (by omega) (k - 1) (by omega) g (by omega) ns (by omega)
    have c2 := r_spec_l21Build0 (fl := fl) table n hn ht root m (a + 1) (by omega) (k - 1) (by omega) (g + 2 ^ a) (by omega) (bld table m (a + 1) g ns).2 (by omega)
    have c3 := r_spec_l21Bit (k - 1) (by omega) a (by omega)
    obtain ⟨k, rfl⟩ : ∃ j, k = j + 1 := ⟨k - 1, by omega⟩
    rw [run_succ rfl rfl, body_eq (nt := 81) (fn := Go.Proofs.Try.f128) (by kernel_rfl) rfl rfl rfl rfl rfl rfl rfl rfl]
    simp -implicitDefEqProofs only [Nat.add_sub_cancel] at c1 c2 c3
    simp -implicitDefEqProofs only [bld]
    generalize bld table m (a + 1) g ns = p1 at *
    obtain ⟨lo, ns1⟩ := p1
    simp only at *
    generalize bld table m (a + 1) (g + 2 ^ a) ns1 = p2 at *
    obtain ⟨hi, ns2⟩ := p2
    simp only at *
    have hg64 : g + 2 ^ a < 64 := by
      have : 2 ^ (a + 1) ≤ 2 ^ 6 := Nat.pow_le_pow_right (by decide) (by omega)
      omega
    have hne : ((((a : Nat) : Int)) == ((n : Nat) : Int)) = false := by simp; omega
    have hw1 : IntKind.i64.wrap ((a : Int) + 1) = ((a + 1 : Nat) : Int) := by rw [IntWalk.i64_in _ (by omega)]; omega
    have hw2 : IntKind.i64.wrap ((g : Int) + ((2 ^ a : Nat) : Int)) = ((g + 2 ^ a : Nat) : Int) := by rw [IntWalk.i64_in _ (by omega)]; omega
    generalize 2 ^ a = pa at *
    have hs : ns2.length ≤ 140737488355328 := by omega
    have hm1 : (ns2.length + 1) * 24 ≤ 140737488355328 := by omega
    have hm2 : ns2.length + 1 ≤ 9223372036854775807 := by omega
    have hpl : plains [(AV.agg [.int .i64 (a : Nat), .int .i64 lo, .int .i64 hi])] = true := rfl
    have hw9 : IntKind.i64.wrap (((ns2.length + 1 : Nat) : Int) - 1) = ((ns2.length : Nat) : Int) := by rw [IntWalk.i64_in _ (by omega)]; omega
    have hw10 : IntKind.i64.wrap (((1 : Nat) : Int) - 1) = 0 := by decide
    rw [bldJoin_eq a lo hi ns2 _ (indexLoop _ ns2 0).symm]
    have g1 := fun nid dst st => give_build (b := 0) (nid := nid) (dst := dst) (st := st) (id := 0) rfl rfl rfl rfl rfl rfl rfl rfl rfl (hΦ := c1)
    have g2 := fun nid dst st => give_build (b := 0) (nid := nid) (dst := dst) (st := st) (id := 112) rfl rfl rfl rfl rfl rfl rfl rfl rfl (hΦ := c2)
    cases hbb : (lo == hi) with
    | true =>
      simp -implicitDefEqProofs only [QS, QN, QG, QO, Go.Proofs.Try.f128, hbb, hne, hw1, hw2, g1, g2, c3, back_rowsN, rows_encR, boxes_encR, len_rowsN, dedup_rowsN, nodup_rowsN, all_rowsN, any_encR, mapO_encR, look_nil, finJ_1, finJ_2, finJ_3, finJ_4, finJ_int, finJ_bool, finJ_str, finJ_nils, finJ_agg, finJ_own, finJ_sl, finJ_tup, look_cons, reduceCtorEq, evCall_mutOwn, evCall_mutAgg, evGive, giveRows, ioBoxes, mutArgs, roArgs, handArg, mutSlots, isPtrB, pairs, pairss, back_nil, back_cons, backO, backE, setBoxes, importB, mode_mut, mode_give, mode_io, mode_ro, List.zip_cons_cons, List.zip_nil_left, List.zip_nil_right, ite_self, ite_true, ite_false, finish_give, finish_mut1, finish_io0, finish_io2, finish_io3, finish_ioc, finI, finC, finW_ptr, ifEv_bool, if_false, if_true, SO, SH, frzO, frzE, AV.laid, AV.treeV, AV.treeC, St.laid, spent, AV.subs, AV.shut, AV.scal, AV.scals, evBuildSlice, elemsOf, zeroOK, evAppend, rowOf, noref, isRef, small, import_, AV.any, AV.anys, isPtr, finV, rename, noPtr, isBad, AV.isUndef, St.setRow, AV.shutV, rebuild, isAggV, evBuild, fillCells, evCutOwn, dedup, nodupB, idx, AV.rows, AV.rowss, AV.mapO, AV.mapOs, firstRegion, gc, keptBoxes, keptRows, renameB, AV.boxes, AV.boxess, SN, evCutRow, Int.reduceToNat, id_eq, Int.reduceBEq, Int.reduceLE, Int.reduceLT, SS, one_ne2, num_ne2, TIS, MDS, wanted, numbered, plainC, plainS, evEq, eqK, evBox, evAlloc, evStore, evLoad, evFieldAddr, behind, takeVal, AV.cells, AV.isCell, ofCells, ofCell, Value.cells, Nat.reduceAdd, Nat.reduceEqDiff, Nat.reduceLT, Nat.reduceLeDiff, Nat.reduceMul, Nat.reduceSub, reduceIte]
    | false =>
      simp -implicitDefEqProofs only [QS, QN, QG, QO, Go.Proofs.Try.f128, hbb, hne, hw1, hw2, g1, g2, c3, back_rowsN, rows_encR, boxes_encR, len_rowsN, dedup_rowsN, nodup_rowsN, all_rowsN, any_encR, mapO_encR, look_nil, finJ_1, finJ_2, finJ_3, finJ_4, finJ_int, finJ_bool, finJ_str, finJ_nils, finJ_agg, finJ_own, finJ_sl, finJ_tup, look_cons, reduceCtorEq, evCall_mutOwn, evCall_mutAgg, evGive, giveRows, ioBoxes, mutArgs, roArgs, handArg, mutSlots, isPtrB, pairs, pairss, back_nil, back_cons, backO, backE, setBoxes, importB, mode_mut, mode_give, mode_io, mode_ro, List.zip_cons_cons, List.zip_nil_left, List.zip_nil_right, ite_self, ite_true, ite_false, finish_give, finish_mut1, finish_io0, finish_io2, finish_io3, finish_ioc, finI, finC, finW_ptr, ifEv_bool, if_false, if_true, SO, SH, frzO, frzE, AV.laid, AV.treeV, AV.treeC, St.laid, spent, AV.subs, AV.shut, AV.scal, AV.scals, evBuildSlice, elemsOf, zeroOK, evAppend, rowOf, noref, isRef, small, import_, AV.any, AV.anys, isPtr, finV, rename, noPtr, isBad, AV.isUndef, St.setRow, AV.shutV, rebuild, isAggV, evBuild, fillCells, evCutOwn, dedup, nodupB, idx, AV.rows, AV.rowss, AV.mapO, AV.mapOs, firstRegion, gc, keptBoxes, keptRows, renameB, AV.boxes, AV.boxess, SN, evCutRow, Int.reduceToNat, id_eq, Int.reduceBEq, Int.reduceLE, Int.reduceLT, SS, one_ne2, num_ne2, TIS, MDS, wanted, numbered, plainC, plainS, evEq, eqK, evBox, evAlloc, evStore, evLoad, evFieldAddr, behind, takeVal, AV.cells, AV.isCell, ofCells, ofCell, Value.cells, Nat.reduceAdd, Nat.reduceEqDiff, Nat.reduceLT, Nat.reduceLeDiff, Nat.reduceMul, Nat.reduceSub, reduceIte]
      rw [ev_loop]
      refine loop_list (Q := fun g z => thenEnd E.P _ _ 1 (thenEv E _ _ _ _ _ (outOf 0 z)) = some (.int .i64 (if 0 ≤ g then g else (ns2.length : Nat)), [[.int .i64 (n : Nat), encR 0 (if 0 ≤ g then ns2 else ns2 ++ [⟨(a : Nat), lo, hi⟩]), .int .i64 root]])) ns2 (indexStep fun c => decide ((⟨(a : Nat), lo, hi⟩ : Choice) = c)) (fun _ => -1)
        (fun i _ => { sl := [(0, .ptr 0 0), (11, .ptr 1 0), (12, .int .i64 (i : Nat))], bx := [(0, [.int .i64 (n : Nat), encR 0 ns2, .int .i64 root]), (1, [.int .i64 (a : Nat), .int .i64 lo, .int .i64 hi])], nx := rowsL ns2 + 2, nt := 81 })
        (fun _ _ => True) () ?_ ?_ ?_ trivial ?_
      · intro _ _
        have hng : (0 ≤ (-1 : Int)) = False := eq_false (by decide)
        rcases Classical.em (ns2 = []) with h2 | h2
        · subst h2
          simp -implicitDefEqProofs only [QS, QN, QG, QO, encR_nil, rowsL_nil, encR_one, enc_Choice, hw10, hng, hpl, plan_128_15, plan_128_13, finI, leaf_some, isNormal, ifEv_bool, look_nil, finJ_1, finJ_2, finJ_3, finJ_4, finJ_int, finJ_bool, finJ_str, finJ_nils, finJ_agg, finJ_own, finJ_sl, finJ_tup, look_cons, reduceCtorEq, evCall_mutOwn, evCall_mutAgg, evGive, giveRows, ioBoxes, mutArgs, roArgs, handArg, mutSlots, isPtrB, pairs, pairss, back_nil, back_cons, backO, backE, setBoxes, importB, mode_mut, mode_give, mode_io, mode_ro, List.zip_cons_cons, List.zip_nil_left, List.zip_nil_right, ite_self, ite_true, ite_false, finish_give, finish_mut1, finish_io0, finish_io2, finish_io3, finish_ioc, finC, finW_ptr, SO, SH, frzO, frzE, AV.laid, AV.treeV, AV.treeC, St.laid, spent, AV.subs, AV.shut, AV.scal, AV.scals, evBuildSlice, elemsOf, zeroOK, evAppend, rowOf, noref, isRef, small, import_, AV.any, AV.anys, isPtr, finV, rename, noPtr, isBad, AV.isUndef, St.setRow, AV.shutV, rebuild, isAggV, evBuild, fillCells, evCutOwn, dedup, nodupB, idx, AV.rows, AV.rowss, AV.mapO, AV.mapOs, firstRegion, gc, keptBoxes, keptRows, renameB, AV.boxes, AV.boxess, SN, evCutRow, Int.reduceToNat, id_eq, Int.reduceBEq, Int.reduceLE, Int.reduceLT, SS, one_ne2, num_ne2, TIS, MDS, wanted, numbered, plainC, plainS, evEq, eqK, evBox, evAlloc, evStore, evLoad, evFieldAddr, behind, takeVal, AV.cells, AV.isCell, ofCells, ofCell, Value.cells, Nat.reduceAdd, Nat.reduceEqDiff, Nat.reduceLT, Nat.reduceLeDiff, Nat.reduceMul, Nat.reduceSub, reduceIte]
        · have e2 := encR_ne (id := 0) h2
          have e3 := encR_ne (id := 0) (append_ne (s := ns2) (c := ⟨(a : Nat), lo, hi⟩))
          rw [List.map_append] at e3
          have hl : (ns2.map (Choice.enc true) ++ [AV.agg [.int .i64 (a : Nat), .int .i64 lo, .int .i64 hi]]).length = ns2.length + 1 := by simp
          simp -implicitDefEqProofs only [QS, QN, QG, QO, e2, rowsL_ne h2, hl, e3, enc_Choice, hs, hm1, hm2, hpl, hw9, hng, plan_128_15, plan_128_13, finI, leaf_some, isNormal, ifEv_bool, look_nil, finJ_1, finJ_2, finJ_3, finJ_4, finJ_int, finJ_bool, finJ_str, finJ_nils, finJ_agg, finJ_own, finJ_sl, finJ_tup, look_cons, reduceCtorEq, evCall_mutOwn, evCall_mutAgg, evGive, giveRows, ioBoxes, mutArgs, roArgs, handArg, mutSlots, isPtrB, pairs, pairss, back_nil, back_cons, backO, backE, setBoxes, importB, mode_mut, mode_give, mode_io, mode_ro, List.zip_cons_cons, List.zip_nil_left, List.zip_nil_right, ite_self, ite_true, ite_false, finish_give, finish_mut1, finish_io0, finish_io2, finish_io3, finish_ioc, finC, finW_ptr, SO, SH, frzO, frzE, AV.laid, AV.treeV, AV.treeC, St.laid, spent, AV.subs, AV.shut, AV.scal, AV.scals, evBuildSlice, elemsOf, zeroOK, evAppend, rowOf, noref, isRef, small, import_, AV.any, AV.anys, isPtr, finV, rename, noPtr, isBad, AV.isUndef, St.setRow, AV.shutV, rebuild, isAggV, evBuild, fillCells, evCutOwn, dedup, nodupB, idx, AV.rows, AV.rowss, AV.mapO, AV.mapOs, firstRegion, gc, keptBoxes, keptRows, renameB, AV.boxes, AV.boxess, SN, evCutRow, Int.reduceToNat, id_eq, Int.reduceBEq, Int.reduceLE, Int.reduceLT, SS, one_ne2, num_ne2, TIS, MDS, wanted, numbered, plainC, plainS, evEq, eqK, evBox, evAlloc, evStore, evLoad, evFieldAddr, behind, takeVal, AV.cells, AV.isCell, ofCells, ofCell, Value.cells, Nat.reduceAdd, Nat.reduceEqDiff, Nat.reduceLT, Nat.reduceLeDiff, Nat.reduceMul, Nat.reduceSub, reduceIte]
      · intro pre c r b hs' _
        have h2 : ns2 ≠ [] := by rw [hs']; simp
        have e2 := encR_ne (id := 0) h2
        have hi0 : (0 ≤ ((pre.length : Nat) : Int)) = True := eq_true (by omega)
        have hx := (at_row hs' hs).1; have hc := (at_row hs' hs).2.1; have hlt := (at_row hs' hs).2.2.1; have hw1 := (at_row hs' hs).2.2.2.1; have hl9 := (at_row hs' hs).2.2.2.2
        clear hs'
        have hq : decide ((⟨(a : Nat), lo, hi⟩ : Choice) = c) = ((c.atom == (a : Nat)) && ((c.low == lo) && (c.high == hi))) := by rw [← eqb_Choice c ⟨(a : Nat), lo, hi⟩, Bool.eq_iff_iff]; simp [eq_comm]
        simp -implicitDefEqProofs only [QS, QN, QG, QO, e2, rowsL_ne h2, hi0, enc_Choice, hx, hlt, hw1, hq, indexStep, plan_128_15, plan_128_13, finI, look_nil, finJ_1, finJ_2, finJ_3, finJ_4, finJ_int, finJ_bool, finJ_str, finJ_nils, finJ_agg, finJ_own, finJ_sl, finJ_tup, look_cons, reduceCtorEq, evCall_mutOwn, evCall_mutAgg, evGive, giveRows, ioBoxes, mutArgs, roArgs, handArg, mutSlots, isPtrB, pairs, pairss, back_nil, back_cons, backO, backE, setBoxes, importB, mode_mut, mode_give, mode_io, mode_ro, List.zip_cons_cons, List.zip_nil_left, List.zip_nil_right, ite_self, ite_true, ite_false, finish_give, finish_mut1, finish_io0, finish_io2, finish_io3, finish_ioc, finC, finW_ptr, SO, SH, frzO, frzE, AV.laid, AV.treeV, AV.treeC, St.laid, spent, AV.subs, AV.shut, AV.scal, AV.scals, evBuildSlice, elemsOf, zeroOK, evAppend, rowOf, noref, isRef, small, import_, AV.any, AV.anys, isPtr, finV, rename, noPtr, isBad, AV.isUndef, St.setRow, AV.shutV, rebuild, isAggV, evBuild, fillCells, evCutOwn, dedup, nodupB, idx, AV.rows, AV.rowss, AV.mapO, AV.mapOs, firstRegion, gc, keptBoxes, keptRows, renameB, AV.boxes, AV.boxess, keep_128_11, leaf_some, isNormal, ifEv_bool, gate_bool, gateP_bool, gateQ_bool, pick_bool, SN, evCutRow, Int.reduceToNat, id_eq, Int.reduceBEq, Int.reduceLE, Int.reduceLT, SS, one_ne2, num_ne2, TIS, MDS, wanted, numbered, plainC, plainS, evEq, eqK, evBox, evAlloc, evStore, evLoad, evFieldAddr, behind, takeVal, AV.cells, AV.isCell, ofCells, ofCell, Value.cells, Nat.reduceAdd, Nat.reduceEqDiff, Nat.reduceLT, Nat.reduceLeDiff, Nat.reduceMul, Nat.reduceSub, reduceIte]
        repeat' (split <;> (rename_i h; (try simp -implicitDefEqProofs only [Bool.not_eq_true', Bool.not_eq_false', decide_eq_true_eq, decide_eq_false_iff_not] at h); (try simp -implicitDefEqProofs only [QS, QN, QG, QO, *, e2, rowsL_ne h2, hi0, enc_Choice, hx, hlt, hw1, hq, indexStep, plan_128_15, plan_128_13, finI, look_nil, finJ_1, finJ_2, finJ_3, finJ_4, finJ_int, finJ_bool, finJ_str, finJ_nils, finJ_agg, finJ_own, finJ_sl, finJ_tup, look_cons, reduceCtorEq, evCall_mutOwn, evCall_mutAgg, evGive, giveRows, ioBoxes, mutArgs, roArgs, handArg, mutSlots, isPtrB, pairs, pairss, back_nil, back_cons, backO, backE, setBoxes, importB, mode_mut, mode_give, mode_io, mode_ro, List.zip_cons_cons, List.zip_nil_left, List.zip_nil_right, ite_self, ite_true, ite_false, finish_give, finish_mut1, finish_io0, finish_io2, finish_io3, finish_ioc, finC, finW_ptr, SO, SH, frzO, frzE, AV.laid, AV.treeV, AV.treeC, St.laid, spent, AV.subs, AV.shut, AV.scal, AV.scals, evBuildSlice, elemsOf, zeroOK, evAppend, rowOf, noref, isRef, small, import_, AV.any, AV.anys, isPtr, finV, rename, noPtr, isBad, AV.isUndef, St.setRow, AV.shutV, rebuild, isAggV, evBuild, fillCells, evCutOwn, dedup, nodupB, idx, AV.rows, AV.rowss, AV.mapO, AV.mapOs, firstRegion, gc, keptBoxes, keptRows, renameB, AV.boxes, AV.boxess, keep_128_11, leaf_some, isNormal, ifEv_bool, gate_bool, gateP_bool, gateQ_bool, pick_bool, SN, evCutRow, Int.reduceToNat, id_eq, Int.reduceBEq, Int.reduceLE, Int.reduceLT, SS, one_ne2, num_ne2, TIS, MDS, wanted, numbered, plainC, plainS, evEq, eqK, evBox, evAlloc, evStore, evLoad, evFieldAddr, behind, takeVal, AV.cells, AV.isCell, ofCells, ofCell, Value.cells, Nat.reduceAdd, Nat.reduceEqDiff, Nat.reduceLT, Nat.reduceLeDiff, Nat.reduceMul, Nat.reduceSub, reduceIte])))
      · omega
      · simp -implicitDefEqProofs only [firstRegion]
        rw [keep_128_11]
        simp -implicitDefEqProofs only [QS, QN, QG, QO, rows_encR, boxes_encR, len_rowsN, dedup_rowsN, nodup_rowsN, all_rowsN, any_encR, mapO_encR, SN, evCutRow, Int.reduceToNat, id_eq, Int.reduceBEq, Int.reduceLE, Int.reduceLT, SO, SH, frzO, frzE, AV.laid, AV.treeV, AV.treeC, St.laid, spent, AV.subs, AV.shut, AV.scal, AV.scals, evBuildSlice, elemsOf, zeroOK, evAppend, rowOf, noref, isRef, small, import_, AV.any, AV.anys, isPtr, finV, rename, noPtr, isBad, AV.isUndef, St.setRow, AV.shutV, rebuild, isAggV, evBuild, fillCells, evCutOwn, dedup, nodupB, idx, AV.rows, AV.rowss, AV.mapO, AV.mapOs, firstRegion, gc, keptBoxes, keptRows, renameB, AV.boxes, AV.boxess, SS, one_ne2, num_ne2, TIS, MDS, wanted, numbered, plainC, plainS, evEq, eqK, evBox, evAlloc, evStore, evLoad, evFieldAddr, behind, takeVal, AV.cells, AV.isCell, ofCells, ofCell, Value.cells, Nat.reduceAdd, Nat.reduceEqDiff, Nat.reduceLT, Nat.reduceLeDiff, Nat.reduceMul, Nat.reduceSub, reduceIte]
end Go.Proofs.Ytbajieiodabdgaa.Flat
