/-
The draws of FnRequests: a fact, a request and a time, a leaf with its case.
-/
import Derived.Test.YtggkeechdakccaaEqPC
import Derived.Test.YtggkeechdakccaaEqDQ
import Derived.Test.YtggkeechdakccaaEqDR
import Derived.Test.YtggkeechdakccaaEqMO
set_option linter.unusedVariables false
set_option linter.unusedSimpArgs false
set_option maxRecDepth 10000
namespace Go.Proofs.Ytggkeechdakccaa.Flat
def anyFactN (bs : List Int) (f : Fact) (i : Nat) (h : Int) : Nat → Draw Fact
  | 0 => ({ f with kind := below1 bs 6 i h }, belowI bs 6 i, belowH 6 h)
  | 1 => ({ f with subject := (anyNameD bs i h).1 }, (anyNameD bs i h).2.1, (anyNameD bs i h).2.2)
  | 2 => ({ f with value := oneOf bs [-1, 3, 4, 5, 6, 20] i h }, belowI bs ((6 : Nat) : Int) i, belowH ((6 : Nat) : Int) h)
  | 3 => ({ f with issuer := oneOf bs [-1, 9, 10] i h }, belowI bs ((3 : Nat) : Int) i, belowH ((3 : Nat) : Int) h)
  | 4 => ({ f with at_ := (timeD bs i h).1 }, (timeD bs i h).2.1, (timeD bs i h).2.2)
  | 5 => ({ f with until_ := (timeD bs i h).1 }, (timeD bs i h).2.1, (timeD bs i h).2.2)
  | _ => (f, i, h)
def anyFactD (bs : List Int) (i : Nat) (h : Int) : Draw Fact :=
  anyFactN bs (factD bs i h).1 (belowI bs 12 (factD bs i h).2.1) (belowH 12 (factD bs i h).2.2) (below1 bs 12 (factD bs i h).2.1 (factD bs i h).2.2).toNat
theorem r_spec_l6Any {fl : Bool} (k : Nat) (hk : 281474976710656 + 8 ≤ k) (bs : List Int) (hb : bs.length ≤ 140737488355328) (i : Nat) (h : Int) :
    run E noExt k 18 [.ptr 0 0] [[.sl fl (bs.map byteA), .int .i64 (i : Nat), .int .i64 h]] = some ((anyFactD bs i h).1.enc true, [[.sl fl (bs.map byteA), .int .i64 ((anyFactD bs i h).2.1 : Nat), .int .i64 (anyFactD bs i h).2.2]]) := by
  have c1 := fun n i h => r_spec_l1Below (fl := fl) (k - 1) (by omega) bs hb n i h
  have c2 := fun i h => r_spec_l6Fact (fl := fl) (k - 1) (by omega) bs hb i h
  have c3 := fun i h => r_spec_l5Any (fl := fl) (k - 1) (by omega) bs hb i h
  have c4 := fun i h => r_spec_l1Int (fl := fl) (k - 1) (by omega) bs hb [-1, 3, 4, 5, 6, 20] (by decide) i h
  have c6 := fun i h => r_spec_l1Int (fl := fl) (k - 1) (by omega) bs hb [-1, 9, 10] (by decide) i h
  have c5 := fun i h => r_spec_l4Time (fl := fl) (k - 1) (by omega) bs hb i h
  have hlt := below_lt bs (n := 12) (by omega) (by omega) (factD bs i h).2.1 (factD bs i h).2.2
  obtain ⟨k, rfl⟩ : ∃ j, k = j + 1 := ⟨k - 1, by omega⟩
  rw [run_succ rfl rfl, body_eq (nt := 41) (fn := Go.Proofs.Try.f18) (by kernel_rfl) rfl rfl rfl rfl rfl rfl rfl rfl]
  simp -implicitDefEqProofs only [Nat.add_sub_cancel, enc_Fact, List.map_cons, List.map_nil, List.length_cons, List.length_nil, Nat.zero_add, Nat.reduceAdd] at c1 c2 c3 c4 c5 c6
  unfold anyFactD
  have c8 := c2 i h
  generalize factD bs i h = X at *
  generalize hd : below1 bs 12 X.2.1 X.2.2 = d at *
  have hm : d = 0 ∨ d = 1 ∨ d = 2 ∨ d = 3 ∨ d = 4 ∨ d = 5 ∨ (d = 6 ∨ d = 7 ∨ d = 8 ∨ d = 9 ∨ d = 10 ∨ d = 11) := by omega
  rcases hm with rfl | rfl | rfl | rfl | rfl | rfl | hm
  · simp -implicitDefEqProofs only [W3, ↓D3, enc_Fact, anyFactN, hd, Int.reduceToNat, finish_cell1, finish_cell2, finCell_some, Go.Proofs.Try.f18, c1, c3, c8, rows_argsR, boxes_argsR, ↓isCell_argsR, cells_argsR, cellsX_agg, cellsX_int, cellsX_bool, cellsX_str, cellsX_nils, cellsX_sl, cellsX_own, cellsX_ptr, cellsX_cptr, cellsX_undef, dedup_rowsD, nodup_rowsD, all_rowsD, all_rowsT, small_rowsD, bad_argsR, ptr_argsR, mapO_argsR, imp_argsR, lend_argsR4, shut_argsR, mem_rowsD, allmem_rowsD, after_D, freeze_ite, frzB_argsR, away_argsR, calm_argsR, opS_store, slidP_ptr, opS_call, slidM_io1, slidM_io2, away_F, away_ptr, away_int, away_bool, away_nils, away_undef, away_sl, away_agg, away_own, look_nil, evCall_io1, evCall_io2, evCall_io3, evCall_io4, finJ_1, finJ_2, finJ_3, finJ_4, finJ_int, finJ_bool, finJ_str, finJ_nils, finJ_agg, finJ_own, finJ_sl, finJ_tup, look_cons, reduceCtorEq, evCall_mutOwn, evCall_mutAgg, evGive, giveRows, ioBoxes, mutArgs, roArgs, handArg, mutSlots, isPtrB, pairs, pairss, back_nil, back_cons, backO, backE, setBoxes, importB, mode_mut, mode_give, mode_io, mode_ro, List.zip_cons_cons, List.zip_nil_left, List.zip_nil_right, ite_self, ite_true, ite_false, finish_give, finish_mut1, finish_io0, finish_io2, finish_io3, finish_ioc, finI, finC, finW_ptr, SH, noref, isRef, isPtr, noPtr, isBad, AV.isUndef, id_eq, Int.reduceBEq, Int.reduceLE, Int.reduceLT, AV.isCell, Value.cells, Nat.reduceAdd, Nat.reduceEqDiff, Nat.reduceLT, Nat.reduceLeDiff, Nat.reduceMul, Nat.reduceSub, reduceIte]
  · simp -implicitDefEqProofs only [W3, ↓D3, enc_Fact, anyFactN, hd, Int.reduceToNat, finish_cell1, finish_cell2, finCell_some, Go.Proofs.Try.f18, c1, c3, c8, rows_argsR, boxes_argsR, ↓isCell_argsR, cells_argsR, cellsX_agg, cellsX_int, cellsX_bool, cellsX_str, cellsX_nils, cellsX_sl, cellsX_own, cellsX_ptr, cellsX_cptr, cellsX_undef, dedup_rowsD, nodup_rowsD, all_rowsD, all_rowsT, small_rowsD, bad_argsR, ptr_argsR, mapO_argsR, imp_argsR, lend_argsR4, shut_argsR, mem_rowsD, allmem_rowsD, after_D, freeze_ite, frzB_argsR, away_argsR, calm_argsR, opS_store, slidP_ptr, opS_call, slidM_io1, slidM_io2, away_F, away_ptr, away_int, away_bool, away_nils, away_undef, away_sl, away_agg, away_own, look_nil, evCall_io1, evCall_io2, evCall_io3, evCall_io4, finJ_1, finJ_2, finJ_3, finJ_4, finJ_int, finJ_bool, finJ_str, finJ_nils, finJ_agg, finJ_own, finJ_sl, finJ_tup, look_cons, reduceCtorEq, evCall_mutOwn, evCall_mutAgg, evGive, giveRows, ioBoxes, mutArgs, roArgs, handArg, mutSlots, isPtrB, pairs, pairss, back_nil, back_cons, backO, backE, setBoxes, importB, mode_mut, mode_give, mode_io, mode_ro, List.zip_cons_cons, List.zip_nil_left, List.zip_nil_right, ite_self, ite_true, ite_false, finish_give, finish_mut1, finish_io0, finish_io2, finish_io3, finish_ioc, finI, finC, finW_ptr, SH, noref, isRef, isPtr, noPtr, isBad, AV.isUndef, id_eq, Int.reduceBEq, Int.reduceLE, Int.reduceLT, AV.isCell, Value.cells, Nat.reduceAdd, Nat.reduceEqDiff, Nat.reduceLT, Nat.reduceLeDiff, Nat.reduceMul, Nat.reduceSub, reduceIte]
  · simp -implicitDefEqProofs only [W3, ↓D3, enc_Fact, anyFactN, hd, Int.reduceToNat, finish_cell1, finish_cell2, finCell_some, Go.Proofs.Try.f18, c1, c4, c8, rows_argsR, boxes_argsR, ↓isCell_argsR, cells_argsR, cellsX_agg, cellsX_int, cellsX_bool, cellsX_str, cellsX_nils, cellsX_sl, cellsX_own, cellsX_ptr, cellsX_cptr, cellsX_undef, dedup_rowsD, nodup_rowsD, all_rowsD, all_rowsT, small_rowsD, bad_argsR, ptr_argsR, mapO_argsR, imp_argsR, lend_argsR4, shut_argsR, mem_rowsD, allmem_rowsD, after_D, freeze_ite, frzB_argsR, away_argsR, calm_argsR, opS_store, slidP_ptr, opS_call, slidM_io1, slidM_io2, away_F, away_ptr, away_int, away_bool, away_nils, away_undef, away_sl, away_agg, away_own, look_nil, evCall_io1, evCall_io2, evCall_io3, evCall_io4, finJ_1, finJ_2, finJ_3, finJ_4, finJ_int, finJ_bool, finJ_str, finJ_nils, finJ_agg, finJ_own, finJ_sl, finJ_tup, look_cons, reduceCtorEq, evCall_mutOwn, evCall_mutAgg, evGive, giveRows, ioBoxes, mutArgs, roArgs, handArg, mutSlots, isPtrB, pairs, pairss, back_nil, back_cons, backO, backE, setBoxes, importB, mode_mut, mode_give, mode_io, mode_ro, List.zip_cons_cons, List.zip_nil_left, List.zip_nil_right, ite_self, ite_true, ite_false, finish_give, finish_mut1, finish_io0, finish_io2, finish_io3, finish_ioc, finI, finC, finW_ptr, SH, noref, isRef, isPtr, noPtr, isBad, AV.isUndef, id_eq, Int.reduceBEq, Int.reduceLE, Int.reduceLT, AV.isCell, Value.cells, Nat.reduceAdd, Nat.reduceEqDiff, Nat.reduceLT, Nat.reduceLeDiff, Nat.reduceMul, Nat.reduceSub, reduceIte]
  · simp -implicitDefEqProofs only [W3, ↓D3, enc_Fact, anyFactN, hd, Int.reduceToNat, finish_cell1, finish_cell2, finCell_some, Go.Proofs.Try.f18, c1, c6, c8, rows_argsR, boxes_argsR, ↓isCell_argsR, cells_argsR, cellsX_agg, cellsX_int, cellsX_bool, cellsX_str, cellsX_nils, cellsX_sl, cellsX_own, cellsX_ptr, cellsX_cptr, cellsX_undef, dedup_rowsD, nodup_rowsD, all_rowsD, all_rowsT, small_rowsD, bad_argsR, ptr_argsR, mapO_argsR, imp_argsR, lend_argsR4, shut_argsR, mem_rowsD, allmem_rowsD, after_D, freeze_ite, frzB_argsR, away_argsR, calm_argsR, opS_store, slidP_ptr, opS_call, slidM_io1, slidM_io2, away_F, away_ptr, away_int, away_bool, away_nils, away_undef, away_sl, away_agg, away_own, look_nil, evCall_io1, evCall_io2, evCall_io3, evCall_io4, finJ_1, finJ_2, finJ_3, finJ_4, finJ_int, finJ_bool, finJ_str, finJ_nils, finJ_agg, finJ_own, finJ_sl, finJ_tup, look_cons, reduceCtorEq, evCall_mutOwn, evCall_mutAgg, evGive, giveRows, ioBoxes, mutArgs, roArgs, handArg, mutSlots, isPtrB, pairs, pairss, back_nil, back_cons, backO, backE, setBoxes, importB, mode_mut, mode_give, mode_io, mode_ro, List.zip_cons_cons, List.zip_nil_left, List.zip_nil_right, ite_self, ite_true, ite_false, finish_give, finish_mut1, finish_io0, finish_io2, finish_io3, finish_ioc, finI, finC, finW_ptr, SH, noref, isRef, isPtr, noPtr, isBad, AV.isUndef, id_eq, Int.reduceBEq, Int.reduceLE, Int.reduceLT, AV.isCell, Value.cells, Nat.reduceAdd, Nat.reduceEqDiff, Nat.reduceLT, Nat.reduceLeDiff, Nat.reduceMul, Nat.reduceSub, reduceIte]
  · simp -implicitDefEqProofs only [W3, ↓D3, enc_Fact, anyFactN, hd, Int.reduceToNat, finish_cell1, finish_cell2, finCell_some, Go.Proofs.Try.f18, c1, c5, c8, rows_argsR, boxes_argsR, ↓isCell_argsR, cells_argsR, cellsX_agg, cellsX_int, cellsX_bool, cellsX_str, cellsX_nils, cellsX_sl, cellsX_own, cellsX_ptr, cellsX_cptr, cellsX_undef, dedup_rowsD, nodup_rowsD, all_rowsD, all_rowsT, small_rowsD, bad_argsR, ptr_argsR, mapO_argsR, imp_argsR, lend_argsR4, shut_argsR, mem_rowsD, allmem_rowsD, after_D, freeze_ite, frzB_argsR, away_argsR, calm_argsR, opS_store, slidP_ptr, opS_call, slidM_io1, slidM_io2, away_F, away_ptr, away_int, away_bool, away_nils, away_undef, away_sl, away_agg, away_own, look_nil, evCall_io1, evCall_io2, evCall_io3, evCall_io4, finJ_1, finJ_2, finJ_3, finJ_4, finJ_int, finJ_bool, finJ_str, finJ_nils, finJ_agg, finJ_own, finJ_sl, finJ_tup, look_cons, reduceCtorEq, evCall_mutOwn, evCall_mutAgg, evGive, giveRows, ioBoxes, mutArgs, roArgs, handArg, mutSlots, isPtrB, pairs, pairss, back_nil, back_cons, backO, backE, setBoxes, importB, mode_mut, mode_give, mode_io, mode_ro, List.zip_cons_cons, List.zip_nil_left, List.zip_nil_right, ite_self, ite_true, ite_false, finish_give, finish_mut1, finish_io0, finish_io2, finish_io3, finish_ioc, finI, finC, finW_ptr, SH, noref, isRef, isPtr, noPtr, isBad, AV.isUndef, id_eq, Int.reduceBEq, Int.reduceLE, Int.reduceLT, AV.isCell, Value.cells, Nat.reduceAdd, Nat.reduceEqDiff, Nat.reduceLT, Nat.reduceLeDiff, Nat.reduceMul, Nat.reduceSub, reduceIte]
  · simp -implicitDefEqProofs only [W3, ↓D3, enc_Fact, anyFactN, hd, Int.reduceToNat, finish_cell1, finish_cell2, finCell_some, Go.Proofs.Try.f18, c1, c5, c8, rows_argsR, boxes_argsR, ↓isCell_argsR, cells_argsR, cellsX_agg, cellsX_int, cellsX_bool, cellsX_str, cellsX_nils, cellsX_sl, cellsX_own, cellsX_ptr, cellsX_cptr, cellsX_undef, dedup_rowsD, nodup_rowsD, all_rowsD, all_rowsT, small_rowsD, bad_argsR, ptr_argsR, mapO_argsR, imp_argsR, lend_argsR4, shut_argsR, mem_rowsD, allmem_rowsD, after_D, freeze_ite, frzB_argsR, away_argsR, calm_argsR, opS_store, slidP_ptr, opS_call, slidM_io1, slidM_io2, away_F, away_ptr, away_int, away_bool, away_nils, away_undef, away_sl, away_agg, away_own, look_nil, evCall_io1, evCall_io2, evCall_io3, evCall_io4, finJ_1, finJ_2, finJ_3, finJ_4, finJ_int, finJ_bool, finJ_str, finJ_nils, finJ_agg, finJ_own, finJ_sl, finJ_tup, look_cons, reduceCtorEq, evCall_mutOwn, evCall_mutAgg, evGive, giveRows, ioBoxes, mutArgs, roArgs, handArg, mutSlots, isPtrB, pairs, pairss, back_nil, back_cons, backO, backE, setBoxes, importB, mode_mut, mode_give, mode_io, mode_ro, List.zip_cons_cons, List.zip_nil_left, List.zip_nil_right, ite_self, ite_true, ite_false, finish_give, finish_mut1, finish_io0, finish_io2, finish_io3, finish_ioc, finI, finC, finW_ptr, SH, noref, isRef, isPtr, noPtr, isBad, AV.isUndef, id_eq, Int.reduceBEq, Int.reduceLE, Int.reduceLT, AV.isCell, Value.cells, Nat.reduceAdd, Nat.reduceEqDiff, Nat.reduceLT, Nat.reduceLeDiff, Nat.reduceMul, Nat.reduceSub, reduceIte]
  · rcases hm with rfl | rfl | rfl | rfl | rfl | rfl
    all_goals
      simp -implicitDefEqProofs only [W3, ↓D3, enc_Fact, anyFactN, hd, Int.reduceToNat, finish_cell1, finish_cell2, finCell_some, Go.Proofs.Try.f18, c1, c8, rows_argsR, boxes_argsR, ↓isCell_argsR, cells_argsR, cellsX_agg, cellsX_int, cellsX_bool, cellsX_str, cellsX_nils, cellsX_sl, cellsX_own, cellsX_ptr, cellsX_cptr, cellsX_undef, dedup_rowsD, nodup_rowsD, all_rowsD, all_rowsT, small_rowsD, bad_argsR, ptr_argsR, mapO_argsR, imp_argsR, lend_argsR4, shut_argsR, mem_rowsD, allmem_rowsD, after_D, freeze_ite, frzB_argsR, away_argsR, calm_argsR, opS_store, slidP_ptr, opS_call, slidM_io1, slidM_io2, away_F, away_ptr, away_int, away_bool, away_nils, away_undef, away_sl, away_agg, away_own, look_nil, evCall_io1, evCall_io2, evCall_io3, evCall_io4, finJ_1, finJ_2, finJ_3, finJ_4, finJ_int, finJ_bool, finJ_str, finJ_nils, finJ_agg, finJ_own, finJ_sl, finJ_tup, look_cons, reduceCtorEq, evCall_mutOwn, evCall_mutAgg, evGive, giveRows, ioBoxes, mutArgs, roArgs, handArg, mutSlots, isPtrB, pairs, pairss, back_nil, back_cons, backO, backE, setBoxes, importB, mode_mut, mode_give, mode_io, mode_ro, List.zip_cons_cons, List.zip_nil_left, List.zip_nil_right, ite_self, ite_true, ite_false, finish_give, finish_mut1, finish_io0, finish_io2, finish_io3, finish_ioc, finI, finC, finW_ptr, SH, noref, isRef, isPtr, noPtr, isBad, AV.isUndef, id_eq, Int.reduceBEq, Int.reduceLE, Int.reduceLT, AV.isCell, Value.cells, Nat.reduceAdd, Nat.reduceEqDiff, Nat.reduceLT, Nat.reduceLeDiff, Nat.reduceMul, Nat.reduceSub, reduceIte]
theorem r_spec_DrawIsFact {fl : Bool} (k : Nat) (hk : 281474976710656 + 12 ≤ k) (bs : List Int) (hb : bs.length ≤ 140737488355328) :
    run E noExt k 6 [.sl fl (bs.map byteA)] [] = some ((anyFactD bs 0 (hashOf bs)).1.enc true, []) := by
  have c1 := r_spec_l1New (fl := fl) (k - 1) (by omega) bs hb
  have c2 := r_spec_l6Any (fl := fl) (k - 1) (by omega) bs hb 0 (hashOf bs)
  obtain ⟨k, rfl⟩ : ∃ j, k = j + 1 := ⟨k - 1, by omega⟩
  rw [run_succ rfl rfl, body_eq (nt := 8) (fn := Go.Proofs.Try.f6) (by kernel_rfl) rfl rfl rfl rfl rfl rfl rfl rfl]
  simp -implicitDefEqProofs only [Nat.add_sub_cancel, enc_Fact] at c1 c2
  rw [show ((0 : Nat) : Int) = 0 from rfl] at c2
  simp -implicitDefEqProofs only [W3, ↓D3, ↓DA, enc_Fact, Go.Proofs.Try.f6, evCall_give1, c1, c2, rows_argsR, boxes_argsR, ↓isCell_argsR, cells_argsR, cellsX_agg, cellsX_int, cellsX_bool, cellsX_str, cellsX_nils, cellsX_sl, cellsX_own, cellsX_ptr, cellsX_cptr, cellsX_undef, dedup_rowsD, nodup_rowsD, all_rowsD, all_rowsT, small_rowsD, bad_argsR, ptr_argsR, mapO_argsR, imp_argsR, lend_argsR4, shut_argsR, mem_rowsD, allmem_rowsD, after_D, freeze_ite, frzB_argsR, away_argsR, calm_argsR, opS_store, slidP_ptr, opS_call, slidM_io1, slidM_io2, away_F, away_ptr, away_int, away_bool, away_nils, away_undef, away_sl, away_agg, away_own, look_nil, evCall_io1, evCall_io2, evCall_io3, evCall_io4, finJ_1, finJ_2, finJ_3, finJ_4, finJ_int, finJ_bool, finJ_str, finJ_nils, finJ_agg, finJ_own, finJ_sl, finJ_tup, look_cons, reduceCtorEq, evCall_mutOwn, evCall_mutAgg, evGive, giveRows, ioBoxes, mutArgs, roArgs, handArg, mutSlots, isPtrB, pairs, pairss, back_nil, back_cons, backO, backE, setBoxes, importB, mode_mut, mode_give, mode_io, mode_ro, List.zip_cons_cons, List.zip_nil_left, List.zip_nil_right, ite_self, ite_true, ite_false, finish_give, finish_mut1, finish_io0, finish_io2, finish_io3, finish_ioc, finI, finC, finW_ptr, SH, noref, isRef, isPtr, noPtr, isBad, AV.isUndef, Int.reduceToNat, id_eq, Int.reduceBEq, Int.reduceLE, Int.reduceLT, AV.cells, AV.isCell, Value.cells, Nat.reduceAdd, Nat.reduceEqDiff, Nat.reduceLT, Nat.reduceLeDiff, Nat.reduceMul, Nat.reduceSub, reduceIte]
theorem r_spec_DrawAtTime {fl : Bool} (k : Nat) (hk : 281474976710656 + 12 ≤ k) (bs : List Int) (hb : bs.length ≤ 140737488355328) :
    ∃ (q : Request) (n : Int), run E noExt k 8 [.sl fl (bs.map byteA)] [] = some (.tup [q.enc true, .int .i64 n], []) := by
  have c1 := r_spec_l1New (fl := fl) (k - 1) (by omega) bs hb
  have c2 := r_spec_l17Any (fl := fl) (k - 1) (by omega) bs hb 0 (hashOf bs)
  have c3 := fun i h => r_spec_l4Time (fl := fl) (k - 1) (by omega) bs hb i h
  refine ⟨(anyRequestD bs 0 (hashOf bs)).1, (timeD bs (anyRequestD bs 0 (hashOf bs)).2.1 (anyRequestD bs 0 (hashOf bs)).2.2).1, ?_⟩
  obtain ⟨k, rfl⟩ : ∃ j, k = j + 1 := ⟨k - 1, by omega⟩
  rw [run_succ rfl rfl, body_eq (nt := 13) (fn := Go.Proofs.Try.f8) (by kernel_rfl) rfl rfl rfl rfl rfl rfl rfl rfl]
  simp -implicitDefEqProofs only [Nat.add_sub_cancel, enc_Request] at c1 c2 c3
  rw [show ((0 : Nat) : Int) = 0 from rfl] at c2
  simp -implicitDefEqProofs only [W3, ↓D3, ↓DA, enc_Request, opQ_assign, finish_many0, resultsOf, resultOf, Go.Proofs.Try.f8, evCall_give1, c1, c2, c3, opS_store, slidP_ptr, opS_call, slidM_io1, slidM_io2, away_ptr, away_agg, away_F, plan_8_3, rows_argsR, boxes_argsR, ↓isCell_argsR, cells_argsR, cellsX_agg, cellsX_int, cellsX_bool, cellsX_str, cellsX_nils, cellsX_sl, cellsX_own, cellsX_ptr, cellsX_cptr, cellsX_undef, dedup_rowsD, nodup_rowsD, all_rowsD, all_rowsT, small_rowsD, bad_argsR, ptr_argsR, mapO_argsR, imp_argsR, lend_argsR4, shut_argsR, mem_rowsD, allmem_rowsD, after_D, freeze_ite, frzB_argsR, away_argsR, calm_argsR, away_int, away_bool, away_nils, away_undef, away_sl, away_own, look_nil, evCall_io1, evCall_io2, evCall_io3, evCall_io4, finJ_1, finJ_2, finJ_3, finJ_4, finJ_int, finJ_bool, finJ_str, finJ_nils, finJ_agg, finJ_own, finJ_sl, finJ_tup, look_cons, reduceCtorEq, evCall_mutOwn, evCall_mutAgg, evGive, giveRows, ioBoxes, mutArgs, roArgs, handArg, mutSlots, isPtrB, pairs, pairss, back_nil, back_cons, backO, backE, setBoxes, importB, mode_mut, mode_give, mode_io, mode_ro, List.zip_cons_cons, List.zip_nil_left, List.zip_nil_right, ite_self, ite_true, ite_false, finish_give, finish_mut1, finish_io0, finish_io2, finish_io3, finish_ioc, finI, finC, finW_ptr, SH, noref, isRef, isPtr, noPtr, isBad, AV.isUndef, Int.reduceToNat, id_eq, Int.reduceBEq, Int.reduceLE, Int.reduceLT, AV.cells, AV.isCell, Value.cells, Nat.reduceAdd, Nat.reduceEqDiff, Nat.reduceLT, Nat.reduceLeDiff, Nat.reduceMul, Nat.reduceSub, reduceIte]
set_option maxHeartbeats 4000000 in
theorem r_spec_DrawLeafHolds {fl : Bool} (k : Nat) (hk : 281474976710656 + 40 ≤ k) (bs : List Int) (hb : bs.length ≤ 140737488355328) :
    ∃ (l : List Includes) (s : List Fact) (o a b : Int) (q : Request), l.length ≤ 3 ∧ s.length ≤ 30 ∧ run E noExt k 5 [.sl fl (bs.map byteA)] [] =
      some (.tup [.own 0 false 79 2 (l.map (Includes.enc true)), .own 1 false 34 6 (s.map (Fact.enc true)), .agg [.int .i64 o, .int .i64 a, .int .i64 b, .nils], q.enc true], []) := by
  have c1 := r_spec_l1New (fl := fl) (k - 1) (by omega) bs hb
  have c2 := r_spec_l17Case (fl := fl) (k - 1) (by omega) bs hb 0 (hashOf bs)
  have c3 := fun i h => r_spec_l15Leaf (fl := fl) (k - 1) (by omega) bs hb i h
  have c4 := fun n i h => r_spec_l1Once (fl := fl) (k - 1) (by omega) bs hb n i h
  have c5 := fun n i h => r_spec_l1Below (fl := fl) (k - 1) (by omega) bs hb n i h
  have h1 := caseD_len1 (bs := bs) (i := 0) (h := hashOf bs)
  have h2 := caseD_len (bs := bs) (i := 0) (h := hashOf bs)
  generalize caseD bs 0 (hashOf bs) = C at *
  have d3 := c3 C.2.2.2.1 C.2.2.2.2
  have h3 : (leafD bs C.2.2.2.1 C.2.2.2.2).1.args = [] := leafN_args _
  unfold Cond.dAV at d3
  rw [h3, List.map_nil, rowN_nil] at d3
  generalize leafD bs C.2.2.2.1 C.2.2.2.2 = L at *
  cases he : below1 bs 8 L.2.1 L.2.2 == 0
  · refine ⟨C.1, C.2.1, L.1.op, L.1.a, L.1.b, C.2.2.1, h1, h2, ?_⟩
    obtain ⟨k, rfl⟩ : ∃ j, k = j + 1 := ⟨k - 1, by omega⟩
    rw [run_succ rfl rfl, body_eq (nt := 30) (fn := Go.Proofs.Try.f5) (by kernel_rfl) rfl rfl rfl rfl rfl rfl rfl rfl]
    simp -implicitDefEqProofs only [Nat.add_sub_cancel, enc_Request] at c1 c2 d3 c4 c5
    rw [show ((0 : Nat) : Int) = 0 from rfl] at c2
    simp -implicitDefEqProofs only [W3, ↓D3, ↓DA, he, enc_Request, opQ_assign, finish_many0, resultsOf, resultOf, Go.Proofs.Try.f5, evCall_give1, c1, c2, d3, c4, scals_Fact, tscals_Includes, opS_store, slidP_ptr, opS_call, slidM_io1, slidM_io2, away_ptr, away_agg, away_F, plan_5_6, rows_argsR, boxes_argsR, ↓isCell_argsR, cells_argsR, cellsX_agg, cellsX_int, cellsX_bool, cellsX_str, cellsX_nils, cellsX_sl, cellsX_own, cellsX_ptr, cellsX_cptr, cellsX_undef, dedup_rowsD, nodup_rowsD, all_rowsD, all_rowsT, small_rowsD, bad_argsR, ptr_argsR, mapO_argsR, imp_argsR, lend_argsR4, shut_argsR, mem_rowsD, allmem_rowsD, after_D, freeze_ite, frzB_argsR, away_argsR, calm_argsR, away_int, away_bool, away_nils, away_undef, away_sl, away_own, look_nil, evCall_io1, evCall_io2, evCall_io3, evCall_io4, finJ_1, finJ_2, finJ_3, finJ_4, finJ_int, finJ_bool, finJ_str, finJ_nils, finJ_agg, finJ_own, finJ_sl, finJ_tup, look_cons, reduceCtorEq, evCall_mutOwn, evCall_mutAgg, evGive, giveRows, ioBoxes, mutArgs, roArgs, handArg, mutSlots, isPtrB, pairs, pairss, back_nil, back_cons, backO, backE, setBoxes, importB, mode_mut, mode_give, mode_io, mode_ro, List.zip_cons_cons, List.zip_nil_left, List.zip_nil_right, ite_self, ite_true, ite_false, finish_give, finish_mut1, finish_io0, finish_io2, finish_io3, finish_ioc, finI, finC, finW_ptr, SH, noref, isRef, isPtr, noPtr, isBad, AV.isUndef, Int.reduceToNat, id_eq, Int.reduceBEq, Int.reduceLE, Int.reduceLT, AV.cells, AV.isCell, Value.cells, Nat.reduceAdd, Nat.reduceEqDiff, Nat.reduceLT, Nat.reduceLeDiff, Nat.reduceMul, Nat.reduceSub, reduceIte]
  · refine ⟨C.1, C.2.1, below1 bs 11 (belowI bs 8 L.2.1) (belowH 8 L.2.2), L.1.a, L.1.b, C.2.2.1, h1, h2, ?_⟩
    obtain ⟨k, rfl⟩ : ∃ j, k = j + 1 := ⟨k - 1, by omega⟩
    rw [run_succ rfl rfl, body_eq (nt := 30) (fn := Go.Proofs.Try.f5) (by kernel_rfl) rfl rfl rfl rfl rfl rfl rfl rfl]
    simp -implicitDefEqProofs only [Nat.add_sub_cancel, enc_Request] at c1 c2 d3 c4 c5
    rw [show ((0 : Nat) : Int) = 0 from rfl] at c2
    simp -implicitDefEqProofs only [W3, ↓D3, ↓DA, he, enc_Request, opQ_assign, finish_many0, resultsOf, resultOf, Go.Proofs.Try.f5, evCall_give1, c1, c2, d3, c4, c5, scals_Fact, tscals_Includes, opS_store, slidP_ptr, opS_call, slidM_io1, slidM_io2, away_ptr, away_agg, away_F, plan_5_6, rows_argsR, boxes_argsR, ↓isCell_argsR, cells_argsR, cellsX_agg, cellsX_int, cellsX_bool, cellsX_str, cellsX_nils, cellsX_sl, cellsX_own, cellsX_ptr, cellsX_cptr, cellsX_undef, dedup_rowsD, nodup_rowsD, all_rowsD, all_rowsT, small_rowsD, bad_argsR, ptr_argsR, mapO_argsR, imp_argsR, lend_argsR4, shut_argsR, mem_rowsD, allmem_rowsD, after_D, freeze_ite, frzB_argsR, away_argsR, calm_argsR, away_int, away_bool, away_nils, away_undef, away_sl, away_own, look_nil, evCall_io1, evCall_io2, evCall_io3, evCall_io4, finJ_1, finJ_2, finJ_3, finJ_4, finJ_int, finJ_bool, finJ_str, finJ_nils, finJ_agg, finJ_own, finJ_sl, finJ_tup, look_cons, reduceCtorEq, evCall_mutOwn, evCall_mutAgg, evGive, giveRows, ioBoxes, mutArgs, roArgs, handArg, mutSlots, isPtrB, pairs, pairss, back_nil, back_cons, backO, backE, setBoxes, importB, mode_mut, mode_give, mode_io, mode_ro, List.zip_cons_cons, List.zip_nil_left, List.zip_nil_right, ite_self, ite_true, ite_false, finish_give, finish_mut1, finish_io0, finish_io2, finish_io3, finish_ioc, finI, finC, finW_ptr, SH, noref, isRef, isPtr, noPtr, isBad, AV.isUndef, Int.reduceToNat, id_eq, Int.reduceBEq, Int.reduceLE, Int.reduceLT, AV.cells, AV.isCell, Value.cells, Nat.reduceAdd, Nat.reduceEqDiff, Nat.reduceLT, Nat.reduceLeDiff, Nat.reduceMul, Nat.reduceSub, reduceIte]
def atTime (q : Request) (n : Int) : Request := { q with now := n }
theorem r_impl_AtTime {fl : Bool} (k : Nat) (hk : 281474976710656 + 1 ≤ k) (q : Request) (n : Int) : run E noExt k 10 [q.enc fl, .int .i64 n] [] = some ((atTime q n).enc fl, []) := by
  obtain ⟨k, rfl⟩ : ∃ j, k = j + 1 := ⟨k - 1, by omega⟩
  rw [run_succ rfl rfl, body_eq (nt := 8) (fn := Go.Proofs.Try.f10) (by kernel_rfl) rfl rfl rfl rfl rfl rfl rfl rfl]
  simp -implicitDefEqProofs only [W1, ↓D1, ↓DC, Go.Proofs.Try.f10, atTime, enc_Request, Int.reduceToNat, id_eq, Int.reduceBEq, Int.reduceLE, Int.reduceLT, Nat.reduceAdd, Nat.reduceEqDiff, Nat.reduceLT, Nat.reduceLeDiff, Nat.reduceMul, Nat.reduceSub, reduceIte]
theorem r_same_AtTime (k : Nat) (hk : 281474976710656 + 2 ≤ k) (q : Request) (n : Int) : run E noExt k 9 [q.enc true, (atTime q n).enc true] [] = some (.bool true, []) := by
  have c1 := r_impl_AtTime (fl := true) (k - 1) (by omega) q n
  obtain ⟨k, rfl⟩ : ∃ j, k = j + 1 := ⟨k - 1, by omega⟩
  rw [run_succ rfl rfl, body_eq (nt := 11) (fn := Go.Proofs.Try.f9) (by kernel_rfl) rfl rfl rfl rfl rfl rfl rfl rfl]
  simp -implicitDefEqProofs only [Nat.add_sub_cancel, enc_Request, atTime] at c1
  simp -implicitDefEqProofs only [W3, ↓D3, ↓DA, ↓DP, ↓DC, enc_Request, atTime, Go.Proofs.Try.f9, c1, Bool.and_self, plan_9_1, SH, Int.reduceToNat, id_eq, Int.reduceBEq, Int.reduceLE, Int.reduceLT, Nat.reduceAdd, Nat.reduceEqDiff, Nat.reduceLT, Nat.reduceLeDiff, Nat.reduceMul, Nat.reduceSub, reduceIte]
def reqStep (f : Fact) (_ : Nat) (x : Fact) (_ : Unit) : Sum Bool Unit := if sameClaim x f = true then .inl true else .inr ()
theorem reqLoop {f : Fact} {b : Bool} : ∀ (s : List Fact) (i : Nat), ((∀ x ∈ s, sameClaim x f = false) → b = true) → loopL (reqStep f) (fun _ => b) i s () = true
  | [], i, h => h fun x hx => by simp at hx
  | x :: r, i, h => by
    simp -implicitDefEqProofs only [loopL, reqStep]
    cases hs : sameClaim x f
    · simp -implicitDefEqProofs only [Bool.false_eq_true, if_false]
      exact reqLoop r (i + 1) fun h2 => h fun y hy => by
        rcases List.mem_cons.1 hy with rfl | hy
        · exact hs
        · exact h2 y hy
    · rfl
set_option maxHeartbeats 8000000 in
theorem law_FnRequests (bs : List Int) (hfit : FitL (fun _ => True) bs) (k : Nat) (hk : 1152921504606846976 ≤ k) : run E noExt k 3 [.sl false (bs.map byteA)] [] = some (.bool true, []) := by
  by_cases hlen : bs.length ≤ 1048576
  · have c0 := r_laws_big (fl := false) (k - 1) (by omega) bs (by omega)
    rw [decide_eq_false (by omega : ¬ (1048576 : Int) < (bs.length : Nat))] at c0
    obtain ⟨l, s, o, a, b, q, hll, hsl, c1⟩ := r_spec_DrawLeafHolds (fl := false) (k - 1) (by omega) bs (by omega)
    have c2 := r_spec_DrawIsFact (fl := false) (k - 1) (by omega) bs (by omega)
    generalize (anyFactD bs 0 (hashOf bs)).1 = f at *
    have c3 := r_impl_PutFact (k - 1) (by omega) s (by omega) f
    obtain ⟨r, now, c4⟩ := r_spec_DrawAtTime (fl := false) (k - 1) (by omega) bs (by omega)
    have c5 := r_impl_AtTime (fl := true) (k - 1) (by omega) r now
    have c6 := r_same_AtTime (k - 1) (by omega) r now
    have c7 := r_impl_LeafHolds (fl := true) (f2 := true) (f3 := true) (f4 := true) (k - 1) (by omega) l (by omega) s (by omega) ⟨o, a, b, []⟩ q
    have htl := iput_len (s := s) (f := f)
    have c8 := r_impl_LeafHolds (fl := true) (f2 := true) (f3 := true) (f4 := true) (k - 1) (by omega) l (by omega) (iput s f).1 (by omega) ⟨o, a, b, []⟩ q
    have c9 := fun x => r_impl_SameClaim (k - 1) (by omega) x f
    have hmore := fun h1 h2 => iput_more (s := s) (f := f) h1 h2
    have hmono := fun h => leaf_mono (l := l) (s := s) (t := (iput s f).1) h (q := q) (x := ⟨o, a, b, []⟩)
    generalize (iput s f).1 = t at *
    generalize (iput s f).2 = ok at *
    generalize leafAt l s q ⟨o, a, b, []⟩ = L1 at *
    generalize leafAt l t q ⟨o, a, b, []⟩ = L2 at *
    have hl : s.length ≤ 140737488355328 := by omega
    obtain ⟨k, rfl⟩ : ∃ j, k = j + 1 := ⟨k - 1, by omega⟩
    rw [run_succ rfl rfl, body_eq (nt := 76) (fn := Go.Proofs.Try.f3) (by kernel_rfl) rfl rfl rfl rfl rfl rfl rfl rfl]
    simp -implicitDefEqProofs only [Nat.add_sub_cancel, enc_Fact, enc_Request, enc_Cond, atTime, List.map_nil] at c0 c1 c2 c3 c4 c5 c6 c7 c8 c9
    cases ok
    · simp -implicitDefEqProofs only [W3, ↓D3, ↓DA, ↓DP, ↓DC, QX, Go.Proofs.Try.f3, c0, c1, c2, c3, c4, c5, c6, c7, op_field, evField, scals_Fact, tscals_Includes, shuts_Includes, shuts_Fact, bne_self_eq_false, plan_3_7, plan_3_14, SH, Int.reduceToNat, id_eq, Int.reduceBEq, Int.reduceLE, Int.reduceLT, Nat.reduceAdd, Nat.reduceEqDiff, Nat.reduceLT, Nat.reduceLeDiff, Nat.reduceMul, Nat.reduceSub, reduceIte]
    · cases L1
      · simp -implicitDefEqProofs only [W3, ↓D3, ↓DA, ↓DP, ↓DC, QX, Go.Proofs.Try.f3, c0, c1, c2, c3, c4, c5, c6, c7, op_field, evField, scals_Fact, tscals_Includes, shuts_Includes, shuts_Fact, bne_self_eq_false, plan_3_7, plan_3_14, SH, Int.reduceToNat, id_eq, Int.reduceBEq, Int.reduceLE, Int.reduceLT, Nat.reduceAdd, Nat.reduceEqDiff, Nat.reduceLT, Nat.reduceLeDiff, Nat.reduceMul, Nat.reduceSub, reduceIte]
      · simp -implicitDefEqProofs only [W3, ↓D3, ↓DA, ↓DP, ↓DC, QX, Go.Proofs.Try.f3, c0, c1, c2, c3, c4, c5, c6, c7, op_field, evField, scals_Fact, tscals_Includes, shuts_Includes, shuts_Fact, bne_self_eq_false, plan_3_7, plan_3_14, SH, Int.reduceToNat, id_eq, Int.reduceBEq, Int.reduceLE, Int.reduceLT, Nat.reduceAdd, Nat.reduceEqDiff, Nat.reduceLT, Nat.reduceLeDiff, Nat.reduceMul, Nat.reduceSub, reduceIte]
        rw [ev_loop]
        refine Eq.trans (loop_list (Q := fun (g : Bool) z => thenEnd E.P [] _ 0 (thenEv E _ _ _ _ _ (outOf 0 z)) = some (.bool g, [])) s (reqStep f) (fun _ => L2)
          (fun i _ => { sl := [(3, .own 0 false 79 2 (l.map (Includes.enc true))), (4, .own 1 false 34 6 (s.map (Fact.enc true))), (5, .ptr 0 0), (6, .ptr 1 0), (7, .ptr 2 0), (8, .own 2 false 34 6 (t.map (Fact.enc true))), (12, .int .i64 (i : Nat))], bx := [(0, [.int .i64 o, .int .i64 a, .int .i64 b, .nils]), (1, [.int .i64 q.person, .int .i64 q.device, .int .i64 q.program, .int .i64 q.action, .int .i64 q.object, .int .i64 q.now]), (2, [.int .i64 f.kind, .int .i64 f.subject, .int .i64 f.value, .int .i64 f.issuer, .int .i64 f.at_, .int .i64 f.until_])], nx := 6, nt := 76 })
          (fun _ _ => True) () ?_ ?_ (by omega) trivial ?_) ?_
        · intro _ _
          have hlt : ¬ ((s.length : Nat) : Int) < ((s.length : Nat) : Int) := by omega
          simp -implicitDefEqProofs only [W3, ↓D3, ↓DA, ↓DP, ↓DC, QX, hlt, c8, scals_Fact, tscals_Includes, shuts_Includes, shuts_Fact, plan_3_7, plan_3_14, SH, leaf_some, isNormal, Int.reduceToNat, id_eq, Int.reduceBEq, Int.reduceLE, Int.reduceLT, Nat.reduceAdd, Nat.reduceEqDiff, Nat.reduceLT, Nat.reduceLeDiff, Nat.reduceMul, Nat.reduceSub, reduceIte]
        · intro pre x rr _ hs' _
          have hx := (at_row hs' hl).1; have hc := (at_row hs' hl).2.1; have hlt := (at_row hs' hl).2.2.1; have hw1 := (at_row hs' hl).2.2.2.1; have hl9 := (at_row hs' hl).2.2.2.2
          clear hs'
          have d9 := c9 x
          cases hS : sameClaim x f
          · rw [hS] at d9
            have hst : reqStep f pre.length x () = .inr () := by unfold reqStep; rw [hS]; rfl
            simp -implicitDefEqProofs only [W3, ↓D3, ↓DA, ↓DP, ↓DC, QX, enc_Fact, hx, hlt, hw1, d9, hst, plan_3_7, plan_3_14, SH, keep_3_12, leaf_some, isNormal, Int.reduceToNat, id_eq, Int.reduceBEq, Int.reduceLE, Int.reduceLT, Nat.reduceAdd, Nat.reduceEqDiff, Nat.reduceLT, Nat.reduceLeDiff, Nat.reduceMul, Nat.reduceSub, reduceIte]
          · rw [hS] at d9
            have hst : reqStep f pre.length x () = .inl true := by unfold reqStep; rw [hS]; rfl
            simp -implicitDefEqProofs only [W3, ↓D3, ↓DA, ↓DP, ↓DC, QX, enc_Fact, hx, hlt, hw1, d9, hst, plan_3_7, plan_3_14, SH, keep_3_12, leaf_some, isNormal, Int.reduceToNat, id_eq, Int.reduceBEq, Int.reduceLE, Int.reduceLT, Nat.reduceAdd, Nat.reduceEqDiff, Nat.reduceLT, Nat.reduceLeDiff, Nat.reduceMul, Nat.reduceSub, reduceIte]
        · simp -implicitDefEqProofs only [firstRegion]
          rw [keep_3_12]
          simp -implicitDefEqProofs only [W3, ↓D3, ↓DA, ↓DP, ↓DC, Int.reduceToNat, id_eq, Int.reduceBEq, Int.reduceLE, Int.reduceLT, SH, Nat.reduceAdd, Nat.reduceEqDiff, Nat.reduceLT, Nat.reduceLeDiff, Nat.reduceMul, Nat.reduceSub, reduceIte]
        · rw [reqLoop s 0 fun h2 => hmono (hmore rfl h2) rfl]
  · have hl : bs.length ≤ 140737488355328 := hfit.1
    have c0 := r_laws_big (fl := false) (k - 1) (by omega) bs hl
    rw [decide_eq_true (by omega : (1048576 : Int) < (bs.length : Nat))] at c0
    obtain ⟨k, rfl⟩ : ∃ j, k = j + 1 := ⟨k - 1, by omega⟩
    rw [run_succ rfl rfl, body_eq (nt := 76) (fn := Go.Proofs.Try.f3) (by kernel_rfl) rfl rfl rfl rfl rfl rfl rfl rfl]
    simp -implicitDefEqProofs only [Nat.add_sub_cancel] at c0
    simp -implicitDefEqProofs only [W3, ↓D3, ↓DA, ↓DP, ↓DC, Go.Proofs.Try.f3, c0, SH, Int.reduceToNat, id_eq, Int.reduceBEq, Int.reduceLE, Int.reduceLT, Nat.reduceAdd, Nat.reduceEqDiff, Nat.reduceLT, Nat.reduceLeDiff, Nat.reduceMul, Nat.reduceSub, reduceIte]
end Go.Proofs.Ytggkeechdakccaa.Flat
