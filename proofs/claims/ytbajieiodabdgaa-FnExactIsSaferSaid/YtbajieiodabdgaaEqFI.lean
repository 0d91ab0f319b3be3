/-
A diagram built from a table: the program's.
-/
import Derived.Test.YtbajieiodabdgaaEqFA
import Derived.Test.YtbajieiodabdgaaEqL
set_option linter.unusedVariables false
set_option linter.unusedSimpArgs false
set_option maxRecDepth 10000
namespace Go.Proofs.Ytbajieiodabdgaa.Flat
theorem or_small : ∀ a < 6, ∀ g < 2 ^ a, bits .or .i64 ((g : Nat) : Int) ((2 ^ a : Nat) : Int) = ((g + 2 ^ a : Nat) : Int) := by decide
theorem lend_encR {bx : Nat → Option (List AV)} {k id : Nat} {s : List Choice} : lend bx (k + 1) (encR id s) = .sl true (s.map (Choice.enc true)) := by
  unfold encR
  split
  · rename_i h
    subst h
    rfl
  · simp -implicitDefEqProofs only [lend, AV.mapO, shuts_Choice]
theorem len_encR2 {bx : Nat → Option (List AV)} {id : Nat} {s : List Choice} : lend bx 4 (encR id s) = .sl true (s.map (Choice.enc true)) := lend_encR
set_option maxHeartbeats 2000000 in
theorem r_impl_built {fl : Bool} (table : List Bool) (n : Nat) (hn : n ≤ 6) (ht : table.length = 2 ^ n) (root : Int) :
    ∀ (m a : Nat) (ha : a + m = n) (k : Nat) (hk : 281474976710656 + 10 + m ≤ k) (g : Nat) (hg : g < 2 ^ a) (ns : List Choice) (hns : ns.length + 2 ^ m ≤ 1000),
    run E noExt k 129 [.ptr 0 0, .int .i64 (a : Nat), .int .i64 (g : Nat), .sl fl (table.map AV.bool)] [[.int .i64 (n : Nat), encR 0 ns, .int .i64 root]] =
      some (.int .i64 (bld table m a g ns).1, [[.int .i64 (n : Nat), encR 0 (bld table m a g ns).2, .int .i64 root]])
  | 0, a, ha, k, hk, g, hg, ns, hns => by
    obtain rfl : a = n := by omega
    have hgl : g < table.length := by rw [ht]; simpa using hg
    have hx : table[g]? = some (table.getD g false) := by rw [List.getD_eq_getElem?_getD, List.getElem?_eq_getElem hgl]; rfl
    have hlt : ((g : Nat) : Int) < ((table.length : Nat) : Int) := by omega
    obtain ⟨k, rfl⟩ : ∃ j, k = j + 1 := ⟨k - 1, by omega⟩
    rw [run_succ rfl rfl, body_eq (nt := 72) (fn := Go.Proofs.Try.f129) (by kernel_rfl) rfl rfl rfl rfl rfl rfl rfl rfl]
    simp -implicitDefEqProofs only [bld]
    generalize table.getD g false = v at hx
    cases v
    all_goals
      simp -implicitDefEqProofs only [QS, QN, QG, QO, Go.Proofs.Try.f129, hx, hlt, rows_encR, boxes_encR, len_rowsN, dedup_rowsN, nodup_rowsN, all_rowsN, any_encR, mapO_encR, look_nil, finJ_1, finJ_2, finJ_3, finJ_4, finJ_int, finJ_bool, finJ_str, finJ_nils, finJ_agg, finJ_own, finJ_sl, finJ_tup, look_cons, reduceCtorEq, evCall_mutOwn, evCall_mutAgg, evGive, giveRows, ioBoxes, mutArgs, roArgs, handArg, mutSlots, isPtrB, pairs, pairss, back_nil, back_cons, backO, backE, setBoxes, importB, mode_mut, mode_give, mode_io, mode_ro, List.zip_cons_cons, List.zip_nil_left, List.zip_nil_right, ite_self, ite_true, ite_false, finish_give, finish_mut1, finish_io0, finish_io2, finish_io3, finish_ioc, finI, finC, finW_ptr, ifEv_bool, if_false, if_true, SO, SH, frzO, frzE, AV.laid, AV.treeV, AV.treeC, St.laid, spent, AV.subs, AV.shut, AV.scal, AV.scals, evBuildSlice, elemsOf, zeroOK, evAppend, rowOf, noref, isRef, small, import_, AV.any, AV.anys, isPtr, finV, rename, noPtr, isBad, AV.isUndef, St.setRow, AV.shutV, rebuild, isAggV, evBuild, fillCells, evCutOwn, dedup, nodupB, idx, AV.rows, AV.rowss, AV.mapO, AV.mapOs, firstRegion, gc, keptBoxes, keptRows, renameB, AV.boxes, AV.boxess, SN, evCutRow, Int.reduceToNat, id_eq, Int.reduceBEq, Int.reduceLE, Int.reduceLT, SS, one_ne2, num_ne2, TIS, MDS, wanted, numbered, plainC, plainS, evEq, eqK, evBox, evAlloc, evStore, evLoad, evFieldAddr, behind, takeVal, AV.cells, AV.isCell, ofCells, ofCell, Value.cells, Nat.reduceAdd, Nat.reduceEqDiff, Nat.reduceLT, Nat.reduceLeDiff, Nat.reduceMul, Nat.reduceSub, reduceIte]
  | m + 1, a, ha, k, hk, g, hg, ns, hns => by
    have hpm : 0 < 2 ^ m := Nat.pow_pos (by decide)
    have hps : 2 ^ (m + 1) = 2 * 2 ^ m := by rw [Nat.pow_succ]; omega
    have hpa : 2 ^ (a + 1) = 2 * 2 ^ a := by rw [Nat.pow_succ]; omega
    have hl1 := bld_len table m (a + 1) g ns
    have hl2 := bld_len table m (a + 1) (g + 2 ^ a) (bld table m (a + 1) g ns).2
    have c1 := r_impl_built (fl := fl) table n hn ht root m (a + 1) (by omega) (k - 1) (by omega) g (by omega) ns (by omega)
    have c2 := r_impl_built (fl := fl) table n hn ht root m (a + 1) (by omega) (k - 1) (by omega) (g + 2 ^ a) (by omega) (bld table m (a + 1) g ns).2 (by omega)
    have hsl : ∀ t, evBin2 E.P .shl t (.int .i64 1) (.int .i64 ((a : Nat) : Int)) = some (.int .i64 ((2 ^ a : Nat) : Int)) := fun t => by
      have h1 : (((a : Nat) : Int) < 0) = False := eq_false (by omega)
      simp -implicitDefEqProofs only [evBin2, evBin, evShift, h1, if_false, shl_small a (by omega)]
    have hor : ∀ t, evBin2 E.P .or t (.int .i64 ((g : Nat) : Int)) (.int .i64 ((2 ^ a : Nat) : Int)) = some (.int .i64 ((g + 2 ^ a : Nat) : Int)) := fun t => by
      simp -implicitDefEqProofs only [evBin2, evBin, evInt, or_small a (by omega) g hg, if_true]
    have c4 := fun (s : List Choice) hs x => r_slices_Index_Choice (fl := true) (gl := true) (k - 1) (by omega) s hs x
    obtain ⟨k, rfl⟩ : ∃ j, k = j + 1 := ⟨k - 1, by omega⟩
    rw [run_succ rfl rfl, body_eq (nt := 72) (fn := Go.Proofs.Try.f129) (by kernel_rfl) rfl rfl rfl rfl rfl rfl rfl rfl]
    simp -implicitDefEqProofs only [Nat.add_sub_cancel, enc_Choice] at c1 c2 c4
    simp -implicitDefEqProofs only [bld]
    generalize bld table m (a + 1) g ns = p1 at *
    obtain ⟨lo, ns1⟩ := p1
    simp only at *
    generalize bld table m (a + 1) (g + 2 ^ a) ns1 = p2 at *
    obtain ⟨hi, ns2⟩ := p2
    simp only at *
    have hne : ((((a : Nat) : Int)) == ((n : Nat) : Int)) = false := by simp; omega
    have hw1 : IntKind.i64.wrap ((a : Int) + 1) = ((a + 1 : Nat) : Int) := by rw [IntWalk.i64_in _ (by omega)]; omega
    generalize 2 ^ a = pa at *
    have hs : ns2.length ≤ 140737488355328 := by omega
    have c5 := c4 ns2 hs ⟨(a : Nat), lo, hi⟩
    clear c4
    have hm1 : (ns2.length + 1) * 24 ≤ 140737488355328 := by omega
    have hm2 : ns2.length + 1 ≤ 9223372036854775807 := by omega
    have hpl : plains [(AV.agg [.int .i64 (a : Nat), .int .i64 lo, .int .i64 hi])] = true := rfl
    have hw9 : IntKind.i64.wrap (((ns2.length + 1 : Nat) : Int) - 1) = ((ns2.length : Nat) : Int) := by rw [IntWalk.i64_in _ (by omega)]; omega
    have hw10 : IntKind.i64.wrap (((1 : Nat) : Int) - 1) = 0 := by decide
    have g1 := fun nid dst st => give_build (b := 0) (nid := nid) (dst := dst) (st := st) (id := 0) rfl rfl rfl rfl rfl rfl rfl rfl rfl (hΦ := c1)
    have g2 := fun id nid dst st => give_build (b := 0) (nid := nid) (dst := dst) (st := st) (id := id) rfl rfl rfl rfl rfl rfl rfl rfl rfl (hΦ := c2)
    have g2 := g2 144
    unfold bldJoin
    simp only at c5
    generalize indexBy (fun c => decide ((⟨(a : Nat), lo, hi⟩ : Choice) = c)) 0 ns2 = ix at *
    cases hbb : (lo == hi) with
    | true =>
      simp -implicitDefEqProofs only [QS, QN, QG, QO, Go.Proofs.Try.f129, hbb, hne, hw1, hsl, hor, g1, g2, back_rowsN, rows_encR, boxes_encR, len_rowsN, dedup_rowsN, nodup_rowsN, all_rowsN, any_encR, mapO_encR, look_nil, finJ_1, finJ_2, finJ_3, finJ_4, finJ_int, finJ_bool, finJ_str, finJ_nils, finJ_agg, finJ_own, finJ_sl, finJ_tup, look_cons, reduceCtorEq, evCall_mutOwn, evCall_mutAgg, evGive, giveRows, ioBoxes, mutArgs, roArgs, handArg, mutSlots, isPtrB, pairs, pairss, back_nil, back_cons, backO, backE, setBoxes, importB, mode_mut, mode_give, mode_io, mode_ro, List.zip_cons_cons, List.zip_nil_left, List.zip_nil_right, ite_self, ite_true, ite_false, finish_give, finish_mut1, finish_io0, finish_io2, finish_io3, finish_ioc, finI, finC, finW_ptr, ifEv_bool, if_false, if_true, SO, SH, frzO, frzE, AV.laid, AV.treeV, AV.treeC, St.laid, spent, AV.subs, AV.shut, AV.scal, AV.scals, evBuildSlice, elemsOf, zeroOK, evAppend, rowOf, noref, isRef, small, import_, AV.any, AV.anys, isPtr, finV, rename, noPtr, isBad, AV.isUndef, St.setRow, AV.shutV, rebuild, isAggV, evBuild, fillCells, evCutOwn, dedup, nodupB, idx, AV.rows, AV.rowss, AV.mapO, AV.mapOs, firstRegion, gc, keptBoxes, keptRows, renameB, AV.boxes, AV.boxess, SN, evCutRow, Int.reduceToNat, id_eq, Int.reduceBEq, Int.reduceLE, Int.reduceLT, SS, one_ne2, num_ne2, TIS, MDS, wanted, numbered, plainC, plainS, evEq, eqK, evBox, evAlloc, evStore, evLoad, evFieldAddr, behind, takeVal, AV.cells, AV.isCell, ofCells, ofCell, Value.cells, Nat.reduceAdd, Nat.reduceEqDiff, Nat.reduceLT, Nat.reduceLeDiff, Nat.reduceMul, Nat.reduceSub, reduceIte]
    | false =>
      rcases Classical.em (0 ≤ ix) with h | h
      · simp -implicitDefEqProofs only [QS, QN, QG, QO, Go.Proofs.Try.f129, hbb, h, c5, hne, hw1, hsl, hor, g1, g2, len_encR2, plan_129_10, back_rowsN, rows_encR, boxes_encR, len_rowsN, dedup_rowsN, nodup_rowsN, all_rowsN, any_encR, mapO_encR, look_nil, finJ_1, finJ_2, finJ_3, finJ_4, finJ_int, finJ_bool, finJ_str, finJ_nils, finJ_agg, finJ_own, finJ_sl, finJ_tup, look_cons, reduceCtorEq, evCall_mutOwn, evCall_mutAgg, evGive, giveRows, ioBoxes, mutArgs, roArgs, handArg, mutSlots, isPtrB, pairs, pairss, back_nil, back_cons, backO, backE, setBoxes, importB, mode_mut, mode_give, mode_io, mode_ro, List.zip_cons_cons, List.zip_nil_left, List.zip_nil_right, ite_self, ite_true, ite_false, finish_give, finish_mut1, finish_io0, finish_io2, finish_io3, finish_ioc, finI, finC, finW_ptr, ifEv_bool, if_false, if_true, SO, SH, frzO, frzE, AV.laid, AV.treeV, AV.treeC, St.laid, spent, AV.subs, AV.shut, AV.scal, AV.scals, evBuildSlice, elemsOf, zeroOK, evAppend, rowOf, noref, isRef, small, import_, AV.any, AV.anys, isPtr, finV, rename, noPtr, isBad, AV.isUndef, St.setRow, AV.shutV, rebuild, isAggV, evBuild, fillCells, evCutOwn, dedup, nodupB, idx, AV.rows, AV.rowss, AV.mapO, AV.mapOs, firstRegion, gc, keptBoxes, keptRows, renameB, AV.boxes, AV.boxess, SN, evCutRow, Int.reduceToNat, id_eq, Int.reduceBEq, Int.reduceLE, Int.reduceLT, SS, one_ne2, num_ne2, TIS, MDS, wanted, numbered, plainC, plainS, evEq, eqK, evBox, evAlloc, evStore, evLoad, evFieldAddr, behind, takeVal, AV.cells, AV.isCell, ofCells, ofCell, Value.cells, Nat.reduceAdd, Nat.reduceEqDiff, Nat.reduceLT, Nat.reduceLeDiff, Nat.reduceMul, Nat.reduceSub, reduceIte]
      · rcases Classical.em (ns2 = []) with h2 | h2
        · subst h2
          simp -implicitDefEqProofs only [List.map_nil] at c5
          simp -implicitDefEqProofs only [QS, QN, QG, QO, Go.Proofs.Try.f129, hbb, h, c5, hne, hw1, hsl, hor, g1, g2, encR_nil, rowsL_nil, encR_one, enc_Choice, hw10, hpl, len_encR2, plan_129_10, plan_129_13, back_rowsN, rows_encR, boxes_encR, len_rowsN, dedup_rowsN, nodup_rowsN, all_rowsN, any_encR, mapO_encR, look_nil, finJ_1, finJ_2, finJ_3, finJ_4, finJ_int, finJ_bool, finJ_str, finJ_nils, finJ_agg, finJ_own, finJ_sl, finJ_tup, look_cons, reduceCtorEq, evCall_mutOwn, evCall_mutAgg, evGive, giveRows, ioBoxes, mutArgs, roArgs, handArg, mutSlots, isPtrB, pairs, pairss, back_nil, back_cons, backO, backE, setBoxes, importB, mode_mut, mode_give, mode_io, mode_ro, List.zip_cons_cons, List.zip_nil_left, List.zip_nil_right, ite_self, ite_true, ite_false, finish_give, finish_mut1, finish_io0, finish_io2, finish_io3, finish_ioc, finI, finC, finW_ptr, ifEv_bool, if_false, if_true, SO, SH, frzO, frzE, AV.laid, AV.treeV, AV.treeC, St.laid, spent, AV.subs, AV.shut, AV.scal, AV.scals, evBuildSlice, elemsOf, zeroOK, evAppend, rowOf, noref, isRef, small, import_, AV.any, AV.anys, isPtr, finV, rename, noPtr, isBad, AV.isUndef, St.setRow, AV.shutV, rebuild, isAggV, evBuild, fillCells, evCutOwn, dedup, nodupB, idx, AV.rows, AV.rowss, AV.mapO, AV.mapOs, firstRegion, gc, keptBoxes, keptRows, renameB, AV.boxes, AV.boxess, SN, evCutRow, Int.reduceToNat, id_eq, Int.reduceBEq, Int.reduceLE, Int.reduceLT, SS, one_ne2, num_ne2, TIS, MDS, wanted, numbered, plainC, plainS, evEq, eqK, evBox, evAlloc, evStore, evLoad, evFieldAddr, behind, takeVal, AV.cells, AV.isCell, ofCells, ofCell, Value.cells, Nat.reduceAdd, Nat.reduceEqDiff, Nat.reduceLT, Nat.reduceLeDiff, Nat.reduceMul, Nat.reduceSub, reduceIte]
        · have e2 := fun id => encR_ne (id := id) h2
          have e3 := encR_ne (id := 0) (append_ne (s := ns2) (c := ⟨(a : Nat), lo, hi⟩))
          rw [List.map_append] at e3
          have hl : (ns2.map (Choice.enc true) ++ [AV.agg [.int .i64 (a : Nat), .int .i64 lo, .int .i64 hi]]).length = ns2.length + 1 := by simp
          simp -implicitDefEqProofs only [QS, QN, QG, QO, Go.Proofs.Try.f129, hbb, h, c5, hne, hw1, hsl, hor, g1, g2, e2, e3, hl, enc_Choice, hs, hm1, hm2, hw9, hpl, shuts_Choice, plan_129_10, plan_129_13, back_rowsN, rows_encR, boxes_encR, len_rowsN, dedup_rowsN, nodup_rowsN, all_rowsN, any_encR, mapO_encR, look_nil, finJ_1, finJ_2, finJ_3, finJ_4, finJ_int, finJ_bool, finJ_str, finJ_nils, finJ_agg, finJ_own, finJ_sl, finJ_tup, look_cons, reduceCtorEq, evCall_mutOwn, evCall_mutAgg, evGive, giveRows, ioBoxes, mutArgs, roArgs, handArg, mutSlots, isPtrB, pairs, pairss, back_nil, back_cons, backO, backE, setBoxes, importB, mode_mut, mode_give, mode_io, mode_ro, List.zip_cons_cons, List.zip_nil_left, List.zip_nil_right, ite_self, ite_true, ite_false, finish_give, finish_mut1, finish_io0, finish_io2, finish_io3, finish_ioc, finI, finC, finW_ptr, ifEv_bool, if_false, if_true, SO, SH, frzO, frzE, AV.laid, AV.treeV, AV.treeC, St.laid, spent, AV.subs, AV.shut, AV.scal, AV.scals, evBuildSlice, elemsOf, zeroOK, evAppend, rowOf, noref, isRef, small, import_, AV.any, AV.anys, isPtr, finV, rename, noPtr, isBad, AV.isUndef, St.setRow, AV.shutV, rebuild, isAggV, evBuild, fillCells, evCutOwn, dedup, nodupB, idx, AV.rows, AV.rowss, AV.mapO, AV.mapOs, firstRegion, gc, keptBoxes, keptRows, renameB, AV.boxes, AV.boxess, SN, evCutRow, Int.reduceToNat, id_eq, Int.reduceBEq, Int.reduceLE, Int.reduceLT, SS, one_ne2, num_ne2, TIS, MDS, wanted, numbered, plainC, plainS, evEq, eqK, evBox, evAlloc, evStore, evLoad, evFieldAddr, behind, takeVal, AV.cells, AV.isCell, ofCells, ofCell, Value.cells, Nat.reduceAdd, Nat.reduceEqDiff, Nat.reduceLT, Nat.reduceLeDiff, Nat.reduceMul, Nat.reduceSub, reduceIte]
end Go.Proofs.Ytbajieiodabdgaa.Flat
