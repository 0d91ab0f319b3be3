/-
The draws: rules.
-/
import Derived.Test.YtigfcbcnfppmcaaGreatEqDU
set_option linter.unusedVariables false
set_option linter.unusedSimpArgs false
set_option maxRecDepth 10000
namespace Go.Proofs.YtigfcbcnfppmcaaGreat.Flat
def ruleN (bs : List Int) (e a : Int) (c : Cond) (i : Nat) (h : Int) : Bool → Draw Rule
  | true => (⟨e, a, (nameD bs 4 i h).1, c⟩, (nameD bs 4 i h).2.1, (nameD bs 4 i h).2.2)
  | false => (⟨e, a, -1, c⟩, i, h)
def ruleC (bs : List Int) (e a : Int) (C : Draw Cond) : Draw Rule := ruleN bs e a C.1 (belowI bs 2 C.2.1) (belowH 2 C.2.2) (below1 bs 2 C.2.1 C.2.2 == 0)
def ruleD (bs : List Int) (i : Nat) (h : Int) : Draw Rule :=
  ruleC bs (oneOf bs [1, 1, 1, 0] i h) (oneOf bs [-1, 0, 1, -1] (belowI bs ((4 : Nat) : Int) i) (belowH ((4 : Nat) : Int) h))
    (condD bs 2 (belowI bs ((4 : Nat) : Int) (belowI bs ((4 : Nat) : Int) i)) (belowH ((4 : Nat) : Int) (belowH ((4 : Nat) : Int) h)))
noncomputable def Rule.dAV (r : Rule) : AV := .agg [.int .i64 r.effect, .int .i64 r.action, .int .i64 r.object, .int .i64 r.cond.op, .int .i64 r.cond.a, .int .i64 r.cond.b, argsR 0 r.cond]
theorem r_spec_l19Rule {fl : Bool} (k : Nat) (hk : 290271069732864 + 10 ≤ k) (bs : List Int) (hb : bs.length ≤ 140737488355328) (i : Nat) (h : Int) :
    run E noExt k 87 [.ptr 0 0] [[.sl fl (bs.map byteA), .int .i64 (i : Nat), .int .i64 h]] = some ((ruleD bs i h).1.dAV, [[.sl fl (bs.map byteA), .int .i64 ((ruleD bs i h).2.1 : Nat), .int .i64 (ruleD bs i h).2.2]]) := by
  have c1 := fun n i h => r_spec_l1Once (fl := fl) (k - 1) (by omega) bs hb n i h
  have c2 := fun i h => r_spec_l1Int (fl := fl) (k - 1) (by omega) bs hb [1, 1, 1, 0] (by decide) i h
  have c3 := fun i h => r_spec_l1Int (fl := fl) (k - 1) (by omega) bs hb [-1, 0, 1, -1] (by decide) i h
  have c4 := fun i h => r_spec_l15CondZ (fl := fl) (k - 1) (by omega) bs hb i h
  have c5 := fun n i h => r_spec_l5Name (fl := fl) (k - 1) (by omega) bs hb n i h
  obtain ⟨k, rfl⟩ : ∃ j, k = j + 1 := ⟨k - 1, by omega⟩
  rw [run_succ rfl rfl, body_eq (nt := 19) (fn := Go.Proofs.Tryz.f87) (by kernel_rfl) rfl rfl rfl rfl rfl rfl rfl rfl]
  simp -implicitDefEqProofs only [Nat.add_sub_cancel, dAV_D, List.map_cons, List.map_nil, List.length_cons, List.length_nil, Nat.zero_add, Nat.reduceAdd] at c1 c2 c3 c4 c5
  unfold ruleD
  have c6 := c4 (belowI bs ((4 : Nat) : Int) (belowI bs ((4 : Nat) : Int) i)) (belowH ((4 : Nat) : Int) (belowH ((4 : Nat) : Int) h))
  generalize condD bs 2 (belowI bs ((4 : Nat) : Int) (belowI bs ((4 : Nat) : Int) i)) (belowH ((4 : Nat) : Int) (belowH ((4 : Nat) : Int) h)) = X at *
  cases hd : below1 bs 2 X.2.1 X.2.2 == 0
  all_goals
    simp -implicitDefEqProofs only [QS, QN, QG, QO, Rule.dAV, ruleC, ruleN, hd, finish_cell1, finish_cell2, finCell_some, Go.Proofs.Tryz.f87, c1, c2, c3, c5, c6, rows_argsR, boxes_argsR, ↓isCell_argsR, cells_argsR, cellsX_agg, cellsX_int, cellsX_bool, cellsX_str, cellsX_nils, cellsX_sl, cellsX_own, cellsX_ptr, cellsX_cptr, cellsX_undef, dedup_rowsD, nodup_rowsD, all_rowsD, all_rowsT, small_rowsD, bad_argsR, ptr_argsR, mapO_argsR, imp_argsR, lend_argsR4, shut_argsR, mem_rowsD, allmem_rowsD, after_D, freeze_ite, frzB_argsR, away_argsR, calm_argsR, opS_store, slidP_ptr, opS_call, slidM_io1, slidM_io2, away_F, away_ptr, away_int, away_bool, away_nils, away_undef, away_sl, away_agg, away_own, look_nil, evCall_io1, evCall_io2, evCall_io3, evCall_io4, finJ_1, finJ_2, finJ_3, finJ_4, finJ_int, finJ_bool, finJ_str, finJ_nils, finJ_agg, finJ_own, finJ_sl, finJ_tup, look_cons, reduceCtorEq, evCall_mutOwn, evCall_mutAgg, evGive, giveRows, ioBoxes, mutArgs, roArgs, handArg, mutSlots, isPtrB, pairs, pairss, back_nil, back_cons, backO, backE, setBoxes, importB, mode_mut, mode_give, mode_io, mode_ro, List.zip_cons_cons, List.zip_nil_left, List.zip_nil_right, ite_self, ite_true, ite_false, finish_give, finish_mut1, finish_io0, finish_io2, finish_io3, finish_ioc, finI, finC, finW_ptr, SO, SH, frzO, frzE, AV.laid, AV.treeV, AV.treeC, St.laid, spent, AV.subs, AV.shut, AV.scal, AV.scals, evBuildSlice, elemsOf, zeroOK, noref, isRef, small, import_, AV.any, AV.anys, isPtr, finV, rename, noPtr, isBad, AV.isUndef, St.setRow, AV.shutV, rebuild, isAggV, evBuild, fillCells, evCutOwn, dedup, nodupB, idx, AV.rows, AV.rowss, AV.mapO, AV.mapOs, firstRegion, gc, keptBoxes, keptRows, renameB, AV.boxes, AV.boxess, SN, evCutRow, Int.reduceToNat, id_eq, Int.reduceBEq, Int.reduceLE, Int.reduceLT, SS, one_ne2, num_ne2, TIS, MDS, wanted, numbered, plainC, plainS, evEq, eqK, evBox, evAlloc, evStore, evLoad, evFieldAddr, behind, takeVal, AV.isCell, ofCells, ofCell, Value.cells, Nat.reduceAdd, Nat.reduceEqDiff, Nat.reduceLT, Nat.reduceLeDiff, Nat.reduceMul, Nat.reduceSub, reduceIte]
    try trace_state
end Go.Proofs.YtigfcbcnfppmcaaGreat.Flat
