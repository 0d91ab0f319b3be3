/-
FromTable, and marks in a diagram.
-/
import Derived.Test.YtbajieiodabdgaaEqFT
import Derived.Test.YtbajieiodabdgaaEqFI
import Derived.Test.YtbajieiodabdgaaEqYB
set_option linter.unusedVariables false
set_option linter.unusedSimpArgs false
set_option maxRecDepth 10000
namespace Go.Proofs.Ytbajieiodabdgaa.Flat
noncomputable def fromT (atoms : Int) (table : List Bool) : Diagram := ⟨atoms, (bld table atoms.toNat 0 0 []).2, (bld table atoms.toNat 0 0 []).1⟩
noncomputable def fromOk (atoms : Int) (table : List Bool) : Bool := inR atoms 0 6 && decide (table.length = 2 ^ atoms.toNat)
noncomputable def fromTable (atoms : Int) (table : List Bool) : Diagram := if fromOk atoms table = true then fromT atoms table else ⟨0, [], 0⟩
noncomputable def Diagram.encN (d : Diagram) : AV := .agg [.int .i64 d.atoms, encR 0 d.nodes, .int .i64 d.root]
theorem r_spec_FromTable {fl : Bool} (k : Nat) (hk : 281474976710656 + 30 ≤ k) (atoms : Int) (table : List Bool) (hl : table.length ≤ 1099511627776) :
    run E noExt k 99 [.int .i64 atoms, .sl fl (table.map AV.bool)] [] = some (.tup [(fromTable atoms table).encN, .bool (fromOk atoms table)], []) := by
  have c1 := r_spec_l1In (k - 1) (by omega) atoms 0 6
  have c2 := r_spec_l21Bit (k - 1) (by omega)
  have c3 := fun n hn ht => r_spec_l21Build0 (fl := fl) table n hn ht 0 n 0 (by omega) (k - 1) (by omega) 0 (by simp) [] (by have : 2 ^ n ≤ 2 ^ 6 := Nat.pow_le_pow_right (by decide) hn; simp -implicitDefEqProofs only [List.length_nil]; omega)
  unfold fromTable fromOk
  obtain ⟨k, rfl⟩ : ∃ j, k = j + 1 := ⟨k - 1, by omega⟩
  rw [run_succ rfl rfl, body_eq (nt := 26) (fn := Go.Proofs.Try.f99) (by kernel_rfl) rfl rfl rfl rfl rfl rfl rfl rfl]
  simp -implicitDefEqProofs only [Nat.add_sub_cancel] at c1 c2 c3
  cases hd : inR atoms 0 6 with
  | false =>
    rw [hd] at c1
    simp -implicitDefEqProofs only [QS, QN, QG, QO, Go.Proofs.Try.f99, c1, Diagram.encN, encR_nil, ifEv_bool, gate_bool, if_false, SO, SH, frzO, frzE, AV.laid, AV.treeV, AV.treeC, St.laid, spent, AV.subs, AV.shut, AV.scal, AV.scals, evBuildSlice, elemsOf, zeroOK, evAppend, rowOf, noref, isRef, small, import_, AV.any, AV.anys, isPtr, finV, rename, noPtr, isBad, AV.isUndef, St.setRow, AV.shutV, rebuild, isAggV, evBuild, fillCells, evCutOwn, dedup, nodupB, idx, AV.rows, AV.rowss, AV.mapO, AV.mapOs, firstRegion, gc, keptBoxes, keptRows, renameB, AV.boxes, AV.boxess, SN, evCutRow, Int.reduceToNat, id_eq, Int.reduceBEq, Int.reduceLE, Int.reduceLT, SS, one_ne2, num_ne2, TIS, MDS, wanted, numbered, plainC, plainS, evEq, eqK, evBox, evAlloc, evStore, evLoad, evFieldAddr, behind, takeVal, AV.cells, AV.isCell, ofCells, ofCell, Value.cells, Nat.reduceAdd, Nat.reduceEqDiff, Nat.reduceLT, Nat.reduceLeDiff, Nat.reduceMul, Nat.reduceSub, reduceIte]
  | true =>
    rw [hd] at c1
    have hr := hd
    simp -implicitDefEqProofs only [inR, Bool.and_eq_true, decide_eq_true_eq] at hr
    obtain ⟨n, hn⟩ : ∃ n : Nat, atoms = (n : Int) := ⟨atoms.toNat, by omega⟩
    subst hn
    have hn6 : n ≤ 6 := by omega
    have c4 := c2 n hn6
    have c5 := c3 n hn6
    clear c2 c3
    simp -implicitDefEqProofs only [Int.toNat_natCast]
    rcases Classical.em (table.length = 2 ^ n) with h | h
    · have hd2 : (((table.length : Nat) : Int) == ((2 ^ n : Nat) : Int)) = true := by simp [h]
      have c6 := c5 h
      have hz0 : ((0 : Nat) : Int) = 0 := rfl
      simp -implicitDefEqProofs only [hz0] at c6
      have g1 := fun nid dst st => give_build (b := 128) (nid := nid) (dst := dst) (st := st) (id := 0) rfl rfl rfl rfl rfl rfl rfl rfl rfl (hΦ := c6)
      have hdt : decide (table.length = 2 ^ n) = true := decide_eq_true h
      unfold fromT
      simp -implicitDefEqProofs only [Int.toNat_natCast]
      generalize bld table n 0 0 [] = p at *
      simp -implicitDefEqProofs only [hdt, Bool.true_and, if_true]
      simp -implicitDefEqProofs only [QS, QN, QG, QO, Go.Proofs.Try.f99, c1, c4, hd2, bne, encR_nil, g1, Diagram.encN, ifEv_bool, gate_bool, if_false, if_true, back_rowsN, rows_encR, boxes_encR, ↓isCell_encR, len_rowsN, dedup_rowsN, nodup_rowsN, all_rowsN, any_encR, mapO_encR, ref_encR, scal_encR, small_rowsN, lend_encR4, imp_encR, rowsN_nil, look_nil, finJ_1, finJ_2, finJ_3, finJ_4, finJ_int, finJ_bool, finJ_str, finJ_nils, finJ_agg, finJ_own, finJ_sl, finJ_tup, look_cons, reduceCtorEq, evCall_mutOwn, evCall_mutAgg, evGive, giveRows, ioBoxes, mutArgs, roArgs, handArg, mutSlots, isPtrB, pairs, pairss, back_nil, back_cons, backO, backE, setBoxes, importB, mode_mut, mode_give, mode_io, mode_ro, List.zip_cons_cons, List.zip_nil_left, List.zip_nil_right, ite_self, ite_true, ite_false, finish_give, finish_mut1, finish_io0, finish_io2, finish_io3, finish_ioc, finI, finC, finW_ptr, SO, SH, frzO, frzE, AV.laid, AV.treeV, AV.treeC, St.laid, spent, AV.subs, AV.shut, AV.scal, AV.scals, evBuildSlice, elemsOf, zeroOK, evAppend, rowOf, noref, isRef, small, import_, AV.any, AV.anys, isPtr, finV, rename, noPtr, isBad, AV.isUndef, St.setRow, AV.shutV, rebuild, isAggV, evBuild, fillCells, evCutOwn, dedup, nodupB, idx, AV.rows, AV.rowss, AV.mapO, AV.mapOs, firstRegion, gc, keptBoxes, keptRows, renameB, AV.boxes, AV.boxess, SN, evCutRow, Int.reduceToNat, id_eq, Int.reduceBEq, Int.reduceLE, Int.reduceLT, SS, one_ne2, num_ne2, TIS, MDS, wanted, numbered, plainC, plainS, evEq, eqK, evBox, evAlloc, evStore, evLoad, evFieldAddr, behind, takeVal, AV.cells, AV.isCell, ofCells, ofCell, Value.cells, Nat.reduceAdd, Nat.reduceEqDiff, Nat.reduceLT, Nat.reduceLeDiff, Nat.reduceMul, Nat.reduceSub, reduceIte]
    · have hd2 : (((table.length : Nat) : Int) == ((2 ^ n : Nat) : Int)) = false := by rw [beq_eq_false_iff_ne]; intro e; exact h (by omega)
      have hdt : decide (table.length = 2 ^ n) = false := decide_eq_false h
      simp -implicitDefEqProofs only [hdt, Bool.true_and]
      simp -implicitDefEqProofs only [QS, QN, QG, QO, Go.Proofs.Try.f99, c1, c4, hd2, bne, Diagram.encN, encR_nil, ifEv_bool, gate_bool, if_false, if_true, SO, SH, frzO, frzE, AV.laid, AV.treeV, AV.treeC, St.laid, spent, AV.subs, AV.shut, AV.scal, AV.scals, evBuildSlice, elemsOf, zeroOK, evAppend, rowOf, noref, isRef, small, import_, AV.any, AV.anys, isPtr, finV, rename, noPtr, isBad, AV.isUndef, St.setRow, AV.shutV, rebuild, isAggV, evBuild, fillCells, evCutOwn, dedup, nodupB, idx, AV.rows, AV.rowss, AV.mapO, AV.mapOs, firstRegion, gc, keptBoxes, keptRows, renameB, AV.boxes, AV.boxess, SN, evCutRow, Int.reduceToNat, id_eq, Int.reduceBEq, Int.reduceLE, Int.reduceLT, SS, one_ne2, num_ne2, TIS, MDS, wanted, numbered, plainC, plainS, evEq, eqK, evBox, evAlloc, evStore, evLoad, evFieldAddr, behind, takeVal, AV.cells, AV.isCell, ofCells, ofCell, Value.cells, Nat.reduceAdd, Nat.reduceEqDiff, Nat.reduceLT, Nat.reduceLeDiff, Nat.reduceMul, Nat.reduceSub, reduceIte]
theorem r_impl_FromTable {fl : Bool} (k : Nat) (hk : 281474976710656 + 30 ≤ k) (atoms : Int) (table : List Bool) (hl : table.length ≤ 1099511627776) :
    run E noExt k 100 [.int .i64 atoms, .sl fl (table.map AV.bool)] [] = some (.tup [(fromTable atoms table).encN, .bool (fromOk atoms table)], []) := by
  have c1 := r_impl_InRange (k - 1) (by omega) atoms 0 6
  have c3 := fun n hn ht => r_impl_built (fl := fl) table n hn ht 0 n 0 (by omega) (k - 1) (by omega) 0 (by simp) [] (by have : 2 ^ n ≤ 2 ^ 6 := Nat.pow_le_pow_right (by decide) hn; simp -implicitDefEqProofs only [List.length_nil]; omega)
  unfold fromTable fromOk
  obtain ⟨k, rfl⟩ : ∃ j, k = j + 1 := ⟨k - 1, by omega⟩
  rw [run_succ rfl rfl, body_eq (nt := 24) (fn := Go.Proofs.Try.f100) (by kernel_rfl) rfl rfl rfl rfl rfl rfl rfl rfl]
  simp -implicitDefEqProofs only [Nat.add_sub_cancel] at c1 c3
  cases hd : inR atoms 0 6 with
  | false =>
    rw [hd] at c1
    simp -implicitDefEqProofs only [QS, QN, QG, QO, Go.Proofs.Try.f100, c1, Diagram.encN, encR_nil, ifEv_bool, gate_bool, if_false, SO, SH, frzO, frzE, AV.laid, AV.treeV, AV.treeC, St.laid, spent, AV.subs, AV.shut, AV.scal, AV.scals, evBuildSlice, elemsOf, zeroOK, evAppend, rowOf, noref, isRef, small, import_, AV.any, AV.anys, isPtr, finV, rename, noPtr, isBad, AV.isUndef, St.setRow, AV.shutV, rebuild, isAggV, evBuild, fillCells, evCutOwn, dedup, nodupB, idx, AV.rows, AV.rowss, AV.mapO, AV.mapOs, firstRegion, gc, keptBoxes, keptRows, renameB, AV.boxes, AV.boxess, SN, evCutRow, Int.reduceToNat, id_eq, Int.reduceBEq, Int.reduceLE, Int.reduceLT, SS, one_ne2, num_ne2, TIS, MDS, wanted, numbered, plainC, plainS, evEq, eqK, evBox, evAlloc, evStore, evLoad, evFieldAddr, behind, takeVal, AV.cells, AV.isCell, ofCells, ofCell, Value.cells, Nat.reduceAdd, Nat.reduceEqDiff, Nat.reduceLT, Nat.reduceLeDiff, Nat.reduceMul, Nat.reduceSub, reduceIte]
  | true =>
    rw [hd] at c1
    have hr := hd
    simp -implicitDefEqProofs only [inR, Bool.and_eq_true, decide_eq_true_eq] at hr
    obtain ⟨n, hn⟩ : ∃ n : Nat, atoms = (n : Int) := ⟨atoms.toNat, by omega⟩
    subst hn
    have hn6 : n ≤ 6 := by omega
    have hsl : ∀ t, evBin2 E.P .shl t (.int .i64 1) (.int .i64 ((n : Nat) : Int)) = some (.int .i64 ((2 ^ n : Nat) : Int)) := fun t => by
      have h1 : (((n : Nat) : Int) < 0) = False := eq_false (by omega)
      simp -implicitDefEqProofs only [evBin2, evBin, evShift, h1, if_false, shl_small n (by omega)]
    have c5 := c3 n hn6
    clear c3
    simp -implicitDefEqProofs only [Int.toNat_natCast]
    rcases Classical.em (table.length = 2 ^ n) with h | h
    · have hd2 : (((table.length : Nat) : Int) == ((2 ^ n : Nat) : Int)) = true := by simp [h]
      have c6 := c5 h
      have hz0 : ((0 : Nat) : Int) = 0 := rfl
      simp -implicitDefEqProofs only [hz0] at c6
      have g1 := fun nid dst st => give_build (b := 128) (nid := nid) (dst := dst) (st := st) (id := 0) rfl rfl rfl rfl rfl rfl rfl rfl rfl (hΦ := c6)
      have hdt : decide (table.length = 2 ^ n) = true := decide_eq_true h
      unfold fromT
      simp -implicitDefEqProofs only [Int.toNat_natCast]
      generalize bld table n 0 0 [] = p at *
      simp -implicitDefEqProofs only [hdt, Bool.true_and, if_true]
      simp -implicitDefEqProofs only [QS, QN, QG, QO, Go.Proofs.Try.f100, c1, hsl, hd2, bne, encR_nil, g1, Diagram.encN, ifEv_bool, gate_bool, if_false, if_true, back_rowsN, rows_encR, boxes_encR, ↓isCell_encR, len_rowsN, dedup_rowsN, nodup_rowsN, all_rowsN, any_encR, mapO_encR, ref_encR, scal_encR, small_rowsN, lend_encR4, imp_encR, rowsN_nil, look_nil, finJ_1, finJ_2, finJ_3, finJ_4, finJ_int, finJ_bool, finJ_str, finJ_nils, finJ_agg, finJ_own, finJ_sl, finJ_tup, look_cons, reduceCtorEq, evCall_mutOwn, evCall_mutAgg, evGive, giveRows, ioBoxes, mutArgs, roArgs, handArg, mutSlots, isPtrB, pairs, pairss, back_nil, back_cons, backO, backE, setBoxes, importB, mode_mut, mode_give, mode_io, mode_ro, List.zip_cons_cons, List.zip_nil_left, List.zip_nil_right, ite_self, ite_true, ite_false, finish_give, finish_mut1, finish_io0, finish_io2, finish_io3, finish_ioc, finI, finC, finW_ptr, SO, SH, frzO, frzE, AV.laid, AV.treeV, AV.treeC, St.laid, spent, AV.subs, AV.shut, AV.scal, AV.scals, evBuildSlice, elemsOf, zeroOK, evAppend, rowOf, noref, isRef, small, import_, AV.any, AV.anys, isPtr, finV, rename, noPtr, isBad, AV.isUndef, St.setRow, AV.shutV, rebuild, isAggV, evBuild, fillCells, evCutOwn, dedup, nodupB, idx, AV.rows, AV.rowss, AV.mapO, AV.mapOs, firstRegion, gc, keptBoxes, keptRows, renameB, AV.boxes, AV.boxess, SN, evCutRow, Int.reduceToNat, id_eq, Int.reduceBEq, Int.reduceLE, Int.reduceLT, SS, one_ne2, num_ne2, TIS, MDS, wanted, numbered, plainC, plainS, evEq, eqK, evBox, evAlloc, evStore, evLoad, evFieldAddr, behind, takeVal, AV.cells, AV.isCell, ofCells, ofCell, Value.cells, Nat.reduceAdd, Nat.reduceEqDiff, Nat.reduceLT, Nat.reduceLeDiff, Nat.reduceMul, Nat.reduceSub, reduceIte]
    · have hd2 : (((table.length : Nat) : Int) == ((2 ^ n : Nat) : Int)) = false := by rw [beq_eq_false_iff_ne]; intro e; exact h (by omega)
      have hdt : decide (table.length = 2 ^ n) = false := decide_eq_false h
      simp -implicitDefEqProofs only [hdt, Bool.true_and]
      simp -implicitDefEqProofs only [QS, QN, QG, QO, Go.Proofs.Try.f100, c1, hsl, hd2, bne, Diagram.encN, encR_nil, ifEv_bool, gate_bool, if_false, if_true, SO, SH, frzO, frzE, AV.laid, AV.treeV, AV.treeC, St.laid, spent, AV.subs, AV.shut, AV.scal, AV.scals, evBuildSlice, elemsOf, zeroOK, evAppend, rowOf, noref, isRef, small, import_, AV.any, AV.anys, isPtr, finV, rename, noPtr, isBad, AV.isUndef, St.setRow, AV.shutV, rebuild, isAggV, evBuild, fillCells, evCutOwn, dedup, nodupB, idx, AV.rows, AV.rowss, AV.mapO, AV.mapOs, firstRegion, gc, keptBoxes, keptRows, renameB, AV.boxes, AV.boxess, SN, evCutRow, Int.reduceToNat, id_eq, Int.reduceBEq, Int.reduceLE, Int.reduceLT, SS, one_ne2, num_ne2, TIS, MDS, wanted, numbered, plainC, plainS, evEq, eqK, evBox, evAlloc, evStore, evLoad, evFieldAddr, behind, takeVal, AV.cells, AV.isCell, ofCells, ofCell, Value.cells, Nat.reduceAdd, Nat.reduceEqDiff, Nat.reduceLT, Nat.reduceLeDiff, Nat.reduceMul, Nat.reduceSub, reduceIte]
end Go.Proofs.Ytbajieiodabdgaa.Flat
