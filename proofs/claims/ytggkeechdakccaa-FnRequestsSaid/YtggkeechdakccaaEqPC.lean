/-
The draws: facts, stores, requests.
-/
import Derived.Test.YtggkeechdakccaaEqPG
import Derived.Test.YtggkeechdakccaaEqDQ
set_option linter.unusedVariables false
set_option linter.unusedSimpArgs false
set_option maxRecDepth 10000
namespace Go.Proofs.Ytggkeechdakccaa.Flat
def twoD {α β γ : Type} (f : Nat → Int → Draw α) (g : Nat → Int → Draw β) (mk : α → β → γ) (i : Nat) (h : Int) : Draw γ :=
  (mk (f i h).1 (g (f i h).2.1 (f i h).2.2).1, (g (f i h).2.1 (f i h).2.2).2.1, (g (f i h).2.1 (f i h).2.2).2.2)
def factN (bs : List Int) (kind issuer a u : Int) (i : Nat) (h : Int) : Nat → Draw Fact
  | 1 => twoD (nameD bs 1) (belowD bs 4) (fun s v => ⟨kind, s, v, issuer, a, u⟩) i h
  | 2 => twoD (nameD bs 1) (nameD bs 2) (fun s v => ⟨kind, s, v, issuer, a, u⟩) i h
  | 3 => twoD (nameD bs 2) (belowD bs 4) (fun s v => ⟨kind, s, v, issuer, a, u⟩) i h
  | _ => twoD (nameD bs 3) (belowD bs 4) (fun s v => ⟨kind, s, v, issuer, a, u⟩) i h
def factD (bs : List Int) (i : Nat) (h : Int) : Draw Fact :=
  factN bs (IntKind.i64.wrap (1 + below1 bs 4 i h)) (below1 bs 3 (belowI bs 4 i) (belowH 4 h)) (below1 bs 20 (belowI bs 3 (belowI bs 4 i)) (belowH 3 (belowH 4 h)))
    (IntKind.i64.wrap (below1 bs 20 (belowI bs 3 (belowI bs 4 i)) (belowH 3 (belowH 4 h)) + below1 bs 30 (belowI bs 20 (belowI bs 3 (belowI bs 4 i))) (belowH 20 (belowH 3 (belowH 4 h)))))
    (belowI bs 30 (belowI bs 20 (belowI bs 3 (belowI bs 4 i)))) (belowH 30 (belowH 20 (belowH 3 (belowH 4 h)))) (IntKind.i64.wrap (1 + below1 bs 4 i h)).toNat
theorem r_spec_l6Fact {fl : Bool} (k : Nat) (hk : 281474976710656 + 6 ≤ k) (bs : List Int) (hb : bs.length ≤ 140737488355328) (i : Nat) (h : Int) :
    run E noExt k 34 [.ptr 0 0] [[.sl fl (bs.map byteA), .int .i64 (i : Nat), .int .i64 h]] = some ((factD bs i h).1.enc true, [[.sl fl (bs.map byteA), .int .i64 ((factD bs i h).2.1 : Nat), .int .i64 (factD bs i h).2.2]]) := by
  have c1 := fun n i h => r_spec_l1Below (fl := fl) (k - 1) (by omega) bs hb n i h
  have c2 := fun n i h => r_spec_l5Name (fl := fl) (k - 1) (by omega) bs hb n i h
  have hlt := below_lt bs (n := 4) (by omega) (by omega) i h
  obtain ⟨k, rfl⟩ : ∃ j, k = j + 1 := ⟨k - 1, by omega⟩
  rw [run_succ rfl rfl, body_eq (nt := 51) (fn := Go.Proofs.Try.f34) (by kernel_rfl) rfl rfl rfl rfl rfl rfl rfl rfl]
  simp -implicitDefEqProofs only [Nat.add_sub_cancel] at c1 c2
  unfold factD
  generalize hd : below1 bs 4 i h = d at *
  have hm : (IntKind.i64.wrap (1 + d) = 1 ∨ IntKind.i64.wrap (1 + d) = 2 ∨ IntKind.i64.wrap (1 + d) = 3 ∨ IntKind.i64.wrap (1 + d) = 4) := by rw [IntWalk.i64_in _ (by omega)]; omega
  rcases hm with hm | hm | hm | hm
  all_goals
    simp -implicitDefEqProofs only [W3, ↓D3, enc_Fact, factN, twoD, belowD, hm, hd, Int.reduceToNat, finish_cell1, finish_cell2, finCell_some, Go.Proofs.Try.f34, c1, c2, plan_34_2, rows_argsR, boxes_argsR, ↓isCell_argsR, cells_argsR, cellsX_agg, cellsX_int, cellsX_bool, cellsX_str, cellsX_nils, cellsX_sl, cellsX_own, cellsX_ptr, cellsX_cptr, cellsX_undef, dedup_rowsD, nodup_rowsD, all_rowsD, all_rowsT, small_rowsD, bad_argsR, ptr_argsR, mapO_argsR, imp_argsR, lend_argsR4, shut_argsR, mem_rowsD, allmem_rowsD, after_D, freeze_ite, frzB_argsR, away_argsR, calm_argsR, opS_store, slidP_ptr, opS_call, slidM_io1, slidM_io2, away_F, away_ptr, away_int, away_bool, away_nils, away_undef, away_sl, away_agg, away_own, look_nil, evCall_io1, evCall_io2, evCall_io3, evCall_io4, finJ_1, finJ_2, finJ_3, finJ_4, finJ_int, finJ_bool, finJ_str, finJ_nils, finJ_agg, finJ_own, finJ_sl, finJ_tup, look_cons, reduceCtorEq, evCall_mutOwn, evCall_mutAgg, evGive, giveRows, ioBoxes, mutArgs, roArgs, handArg, mutSlots, isPtrB, pairs, pairss, back_nil, back_cons, backO, backE, setBoxes, importB, mode_mut, mode_give, mode_io, mode_ro, List.zip_cons_cons, List.zip_nil_left, List.zip_nil_right, ite_self, ite_true, ite_false, finish_give, finish_mut1, finish_io0, finish_io2, finish_io3, finish_ioc, finI, finC, finW_ptr, SH, noref, isRef, isPtr, noPtr, isBad, AV.isUndef, id_eq, Int.reduceBEq, Int.reduceLE, Int.reduceLT, AV.isCell, Value.cells, Nat.reduceAdd, Nat.reduceEqDiff, Nat.reduceLT, Nat.reduceLeDiff, Nat.reduceMul, Nat.reduceSub, reduceIte]
    try trace_state
def requestD (bs : List Int) (i : Nat) (h : Int) : Draw Request :=
  let P := nameD bs 1 i h; let D := nameD bs 2 P.2.1 P.2.2; let G := nameD bs 3 D.2.1 D.2.2
  let A := belowD bs 2 G.2.1 G.2.2; let O := nameD bs 4 A.2.1 A.2.2; let W := belowD bs 30 O.2.1 O.2.2
  (⟨P.1, D.1, G.1, A.1, O.1, W.1⟩, W.2.1, W.2.2)
theorem r_spec_l17Request {fl : Bool} (k : Nat) (hk : 281474976710656 + 6 ≤ k) (bs : List Int) (hb : bs.length ≤ 140737488355328) (i : Nat) (h : Int) :
    run E noExt k 33 [.ptr 0 0] [[.sl fl (bs.map byteA), .int .i64 (i : Nat), .int .i64 h]] = some ((requestD bs i h).1.enc true, [[.sl fl (bs.map byteA), .int .i64 ((requestD bs i h).2.1 : Nat), .int .i64 (requestD bs i h).2.2]]) := by
  have c1 := fun n i h => r_spec_l1Below (fl := fl) (k - 1) (by omega) bs hb n i h
  have c2 := fun n i h => r_spec_l5Name (fl := fl) (k - 1) (by omega) bs hb n i h
  obtain ⟨k, rfl⟩ : ∃ j, k = j + 1 := ⟨k - 1, by omega⟩
  rw [run_succ rfl rfl, body_eq (nt := 26) (fn := Go.Proofs.Try.f33) (by kernel_rfl) rfl rfl rfl rfl rfl rfl rfl rfl]
  simp -implicitDefEqProofs only [Nat.add_sub_cancel] at c1 c2
  simp -implicitDefEqProofs only [W3, ↓D3, enc_Request, requestD, belowD, finish_cell1, finish_cell2, finCell_some, Go.Proofs.Try.f33, c1, c2, rows_argsR, boxes_argsR, ↓isCell_argsR, cells_argsR, cellsX_agg, cellsX_int, cellsX_bool, cellsX_str, cellsX_nils, cellsX_sl, cellsX_own, cellsX_ptr, cellsX_cptr, cellsX_undef, dedup_rowsD, nodup_rowsD, all_rowsD, all_rowsT, small_rowsD, bad_argsR, ptr_argsR, mapO_argsR, imp_argsR, lend_argsR4, shut_argsR, mem_rowsD, allmem_rowsD, after_D, freeze_ite, frzB_argsR, away_argsR, calm_argsR, opS_store, slidP_ptr, opS_call, slidM_io1, slidM_io2, away_F, away_ptr, away_int, away_bool, away_nils, away_undef, away_sl, away_agg, away_own, look_nil, evCall_io1, evCall_io2, evCall_io3, evCall_io4, finJ_1, finJ_2, finJ_3, finJ_4, finJ_int, finJ_bool, finJ_str, finJ_nils, finJ_agg, finJ_own, finJ_sl, finJ_tup, look_cons, reduceCtorEq, evCall_mutOwn, evCall_mutAgg, evGive, giveRows, ioBoxes, mutArgs, roArgs, handArg, mutSlots, isPtrB, pairs, pairss, back_nil, back_cons, backO, backE, setBoxes, importB, mode_mut, mode_give, mode_io, mode_ro, List.zip_cons_cons, List.zip_nil_left, List.zip_nil_right, ite_self, ite_true, ite_false, finish_give, finish_mut1, finish_io0, finish_io2, finish_io3, finish_ioc, finI, finC, finW_ptr, SH, noref, isRef, isPtr, noPtr, isBad, AV.isUndef, Int.reduceToNat, id_eq, Int.reduceBEq, Int.reduceLE, Int.reduceLT, AV.isCell, Value.cells, Nat.reduceAdd, Nat.reduceEqDiff, Nat.reduceLT, Nat.reduceLeDiff, Nat.reduceMul, Nat.reduceSub, reduceIte]
  try trace_state
def anyRequestN (bs : List Int) (q : Request) (i : Nat) (h : Int) : Nat → Draw Request
  | 0 => ({ q with person := (anyNameD bs i h).1 }, (anyNameD bs i h).2.1, (anyNameD bs i h).2.2)
  | 1 => ({ q with action := oneOf bs [-1, 5, 6] i h }, belowI bs ((3 : Nat) : Int) i, belowH ((3 : Nat) : Int) h)
  | 2 => ({ q with now := (timeD bs i h).1 }, (timeD bs i h).2.1, (timeD bs i h).2.2)
  | 3 => ({ q with object := (anyNameD bs i h).1 }, (anyNameD bs i h).2.1, (anyNameD bs i h).2.2)
  | _ => (q, i, h)
def anyRequestD (bs : List Int) (i : Nat) (h : Int) : Draw Request :=
  anyRequestN bs (requestD bs i h).1 (belowI bs 10 (requestD bs i h).2.1) (belowH 10 (requestD bs i h).2.2) (below1 bs 10 (requestD bs i h).2.1 (requestD bs i h).2.2).toNat
theorem r_spec_l17Any {fl : Bool} (k : Nat) (hk : 281474976710656 + 8 ≤ k) (bs : List Int) (hb : bs.length ≤ 140737488355328) (i : Nat) (h : Int) :
    run E noExt k 25 [.ptr 0 0] [[.sl fl (bs.map byteA), .int .i64 (i : Nat), .int .i64 h]] = some ((anyRequestD bs i h).1.enc true, [[.sl fl (bs.map byteA), .int .i64 ((anyRequestD bs i h).2.1 : Nat), .int .i64 (anyRequestD bs i h).2.2]]) := by
  have c1 := fun n i h => r_spec_l1Below (fl := fl) (k - 1) (by omega) bs hb n i h
  have c2 := fun i h => r_spec_l17Request (fl := fl) (k - 1) (by omega) bs hb i h
  have c3 := fun i h => r_spec_l5Any (fl := fl) (k - 1) (by omega) bs hb i h
  have c4 := fun i h => r_spec_l1Int (fl := fl) (k - 1) (by omega) bs hb [-1, 5, 6] (by decide) i h
  have c5 := fun i h => r_spec_l4Time (fl := fl) (k - 1) (by omega) bs hb i h
  have hlt := below_lt bs (n := 10) (by omega) (by omega) (requestD bs i h).2.1 (requestD bs i h).2.2
  obtain ⟨k, rfl⟩ : ∃ j, k = j + 1 := ⟨k - 1, by omega⟩
  rw [run_succ rfl rfl, body_eq (nt := 30) (fn := Go.Proofs.Try.f25) (by kernel_rfl) rfl rfl rfl rfl rfl rfl rfl rfl]
  simp -implicitDefEqProofs only [Nat.add_sub_cancel, enc_Request, List.map_cons, List.map_nil, List.length_cons, List.length_nil, Nat.zero_add, Nat.reduceAdd] at c1 c2 c3 c4 c5
  unfold anyRequestD
  have c8 := c2 i h
  generalize requestD bs i h = X at *
  generalize hd : below1 bs 10 X.2.1 X.2.2 = d at *
  have hm : d = 0 ∨ d = 1 ∨ d = 2 ∨ d = 3 ∨ (d = 4 ∨ d = 5 ∨ d = 6 ∨ d = 7 ∨ d = 8 ∨ d = 9) := by omega
  rcases hm with rfl | rfl | rfl | rfl | hm
  · simp -implicitDefEqProofs only [W3, ↓D3, enc_Request, anyRequestN, hd, Int.reduceToNat, finish_cell1, finish_cell2, finCell_some, Go.Proofs.Try.f25, c1, c3, c8, rows_argsR, boxes_argsR, ↓isCell_argsR, cells_argsR, cellsX_agg, cellsX_int, cellsX_bool, cellsX_str, cellsX_nils, cellsX_sl, cellsX_own, cellsX_ptr, cellsX_cptr, cellsX_undef, dedup_rowsD, nodup_rowsD, all_rowsD, all_rowsT, small_rowsD, bad_argsR, ptr_argsR, mapO_argsR, imp_argsR, lend_argsR4, shut_argsR, mem_rowsD, allmem_rowsD, after_D, freeze_ite, frzB_argsR, away_argsR, calm_argsR, opS_store, slidP_ptr, opS_call, slidM_io1, slidM_io2, away_F, away_ptr, away_int, away_bool, away_nils, away_undef, away_sl, away_agg, away_own, look_nil, evCall_io1, evCall_io2, evCall_io3, evCall_io4, finJ_1, finJ_2, finJ_3, finJ_4, finJ_int, finJ_bool, finJ_str, finJ_nils, finJ_agg, finJ_own, finJ_sl, finJ_tup, look_cons, reduceCtorEq, evCall_mutOwn, evCall_mutAgg, evGive, giveRows, ioBoxes, mutArgs, roArgs, handArg, mutSlots, isPtrB, pairs, pairss, back_nil, back_cons, backO, backE, setBoxes, importB, mode_mut, mode_give, mode_io, mode_ro, List.zip_cons_cons, List.zip_nil_left, List.zip_nil_right, ite_self, ite_true, ite_false, finish_give, finish_mut1, finish_io0, finish_io2, finish_io3, finish_ioc, finI, finC, finW_ptr, SH, noref, isRef, isPtr, noPtr, isBad, AV.isUndef, id_eq, Int.reduceBEq, Int.reduceLE, Int.reduceLT, AV.isCell, Value.cells, Nat.reduceAdd, Nat.reduceEqDiff, Nat.reduceLT, Nat.reduceLeDiff, Nat.reduceMul, Nat.reduceSub, reduceIte]
  · simp -implicitDefEqProofs only [W3, ↓D3, enc_Request, anyRequestN, hd, Int.reduceToNat, finish_cell1, finish_cell2, finCell_some, Go.Proofs.Try.f25, c1, c4, c8, rows_argsR, boxes_argsR, ↓isCell_argsR, cells_argsR, cellsX_agg, cellsX_int, cellsX_bool, cellsX_str, cellsX_nils, cellsX_sl, cellsX_own, cellsX_ptr, cellsX_cptr, cellsX_undef, dedup_rowsD, nodup_rowsD, all_rowsD, all_rowsT, small_rowsD, bad_argsR, ptr_argsR, mapO_argsR, imp_argsR, lend_argsR4, shut_argsR, mem_rowsD, allmem_rowsD, after_D, freeze_ite, frzB_argsR, away_argsR, calm_argsR, opS_store, slidP_ptr, opS_call, slidM_io1, slidM_io2, away_F, away_ptr, away_int, away_bool, away_nils, away_undef, away_sl, away_agg, away_own, look_nil, evCall_io1, evCall_io2, evCall_io3, evCall_io4, finJ_1, finJ_2, finJ_3, finJ_4, finJ_int, finJ_bool, finJ_str, finJ_nils, finJ_agg, finJ_own, finJ_sl, finJ_tup, look_cons, reduceCtorEq, evCall_mutOwn, evCall_mutAgg, evGive, giveRows, ioBoxes, mutArgs, roArgs, handArg, mutSlots, isPtrB, pairs, pairss, back_nil, back_cons, backO, backE, setBoxes, importB, mode_mut, mode_give, mode_io, mode_ro, List.zip_cons_cons, List.zip_nil_left, List.zip_nil_right, ite_self, ite_true, ite_false, finish_give, finish_mut1, finish_io0, finish_io2, finish_io3, finish_ioc, finI, finC, finW_ptr, SH, noref, isRef, isPtr, noPtr, isBad, AV.isUndef, id_eq, Int.reduceBEq, Int.reduceLE, Int.reduceLT, AV.isCell, Value.cells, Nat.reduceAdd, Nat.reduceEqDiff, Nat.reduceLT, Nat.reduceLeDiff, Nat.reduceMul, Nat.reduceSub, reduceIte]
  · simp -implicitDefEqProofs only [W3, ↓D3, enc_Request, anyRequestN, hd, Int.reduceToNat, finish_cell1, finish_cell2, finCell_some, Go.Proofs.Try.f25, c1, c5, c8, rows_argsR, boxes_argsR, ↓isCell_argsR, cells_argsR, cellsX_agg, cellsX_int, cellsX_bool, cellsX_str, cellsX_nils, cellsX_sl, cellsX_own, cellsX_ptr, cellsX_cptr, cellsX_undef, dedup_rowsD, nodup_rowsD, all_rowsD, all_rowsT, small_rowsD, bad_argsR, ptr_argsR, mapO_argsR, imp_argsR, lend_argsR4, shut_argsR, mem_rowsD, allmem_rowsD, after_D, freeze_ite, frzB_argsR, away_argsR, calm_argsR, opS_store, slidP_ptr, opS_call, slidM_io1, slidM_io2, away_F, away_ptr, away_int, away_bool, away_nils, away_undef, away_sl, away_agg, away_own, look_nil, evCall_io1, evCall_io2, evCall_io3, evCall_io4, finJ_1, finJ_2, finJ_3, finJ_4, finJ_int, finJ_bool, finJ_str, finJ_nils, finJ_agg, finJ_own, finJ_sl, finJ_tup, look_cons, reduceCtorEq, evCall_mutOwn, evCall_mutAgg, evGive, giveRows, ioBoxes, mutArgs, roArgs, handArg, mutSlots, isPtrB, pairs, pairss, back_nil, back_cons, backO, backE, setBoxes, importB, mode_mut, mode_give, mode_io, mode_ro, List.zip_cons_cons, List.zip_nil_left, List.zip_nil_right, ite_self, ite_true, ite_false, finish_give, finish_mut1, finish_io0, finish_io2, finish_io3, finish_ioc, finI, finC, finW_ptr, SH, noref, isRef, isPtr, noPtr, isBad, AV.isUndef, id_eq, Int.reduceBEq, Int.reduceLE, Int.reduceLT, AV.isCell, Value.cells, Nat.reduceAdd, Nat.reduceEqDiff, Nat.reduceLT, Nat.reduceLeDiff, Nat.reduceMul, Nat.reduceSub, reduceIte]
  · simp -implicitDefEqProofs only [W3, ↓D3, enc_Request, anyRequestN, hd, Int.reduceToNat, finish_cell1, finish_cell2, finCell_some, Go.Proofs.Try.f25, c1, c3, c8, rows_argsR, boxes_argsR, ↓isCell_argsR, cells_argsR, cellsX_agg, cellsX_int, cellsX_bool, cellsX_str, cellsX_nils, cellsX_sl, cellsX_own, cellsX_ptr, cellsX_cptr, cellsX_undef, dedup_rowsD, nodup_rowsD, all_rowsD, all_rowsT, small_rowsD, bad_argsR, ptr_argsR, mapO_argsR, imp_argsR, lend_argsR4, shut_argsR, mem_rowsD, allmem_rowsD, after_D, freeze_ite, frzB_argsR, away_argsR, calm_argsR, opS_store, slidP_ptr, opS_call, slidM_io1, slidM_io2, away_F, away_ptr, away_int, away_bool, away_nils, away_undef, away_sl, away_agg, away_own, look_nil, evCall_io1, evCall_io2, evCall_io3, evCall_io4, finJ_1, finJ_2, finJ_3, finJ_4, finJ_int, finJ_bool, finJ_str, finJ_nils, finJ_agg, finJ_own, finJ_sl, finJ_tup, look_cons, reduceCtorEq, evCall_mutOwn, evCall_mutAgg, evGive, giveRows, ioBoxes, mutArgs, roArgs, handArg, mutSlots, isPtrB, pairs, pairss, back_nil, back_cons, backO, backE, setBoxes, importB, mode_mut, mode_give, mode_io, mode_ro, List.zip_cons_cons, List.zip_nil_left, List.zip_nil_right, ite_self, ite_true, ite_false, finish_give, finish_mut1, finish_io0, finish_io2, finish_io3, finish_ioc, finI, finC, finW_ptr, SH, noref, isRef, isPtr, noPtr, isBad, AV.isUndef, id_eq, Int.reduceBEq, Int.reduceLE, Int.reduceLT, AV.isCell, Value.cells, Nat.reduceAdd, Nat.reduceEqDiff, Nat.reduceLT, Nat.reduceLeDiff, Nat.reduceMul, Nat.reduceSub, reduceIte]
  · rcases hm with rfl | rfl | rfl | rfl | rfl | rfl
    all_goals
      simp -implicitDefEqProofs only [W3, ↓D3, enc_Request, anyRequestN, hd, Int.reduceToNat, finish_cell1, finish_cell2, finCell_some, Go.Proofs.Try.f25, c1, c8, rows_argsR, boxes_argsR, ↓isCell_argsR, cells_argsR, cellsX_agg, cellsX_int, cellsX_bool, cellsX_str, cellsX_nils, cellsX_sl, cellsX_own, cellsX_ptr, cellsX_cptr, cellsX_undef, dedup_rowsD, nodup_rowsD, all_rowsD, all_rowsT, small_rowsD, bad_argsR, ptr_argsR, mapO_argsR, imp_argsR, lend_argsR4, shut_argsR, mem_rowsD, allmem_rowsD, after_D, freeze_ite, frzB_argsR, away_argsR, calm_argsR, opS_store, slidP_ptr, opS_call, slidM_io1, slidM_io2, away_F, away_ptr, away_int, away_bool, away_nils, away_undef, away_sl, away_agg, away_own, look_nil, evCall_io1, evCall_io2, evCall_io3, evCall_io4, finJ_1, finJ_2, finJ_3, finJ_4, finJ_int, finJ_bool, finJ_str, finJ_nils, finJ_agg, finJ_own, finJ_sl, finJ_tup, look_cons, reduceCtorEq, evCall_mutOwn, evCall_mutAgg, evGive, giveRows, ioBoxes, mutArgs, roArgs, handArg, mutSlots, isPtrB, pairs, pairss, back_nil, back_cons, backO, backE, setBoxes, importB, mode_mut, mode_give, mode_io, mode_ro, List.zip_cons_cons, List.zip_nil_left, List.zip_nil_right, ite_self, ite_true, ite_false, finish_give, finish_mut1, finish_io0, finish_io2, finish_io3, finish_ioc, finI, finC, finW_ptr, SH, noref, isRef, isPtr, noPtr, isBad, AV.isUndef, id_eq, Int.reduceBEq, Int.reduceLE, Int.reduceLT, AV.isCell, Value.cells, Nat.reduceAdd, Nat.reduceEqDiff, Nat.reduceLT, Nat.reduceLeDiff, Nat.reduceMul, Nat.reduceSub, reduceIte]
def storeD1 (bs : List Int) (b : List Fact × Nat × Int) : List Fact × Nat × Int := (putS b.1 (factD bs b.2.1 b.2.2).1, (factD bs b.2.1 b.2.2).2.1, (factD bs b.2.1 b.2.2).2.2)
def storeN (bs : List Int) (b : List Fact × Nat × Int) : Nat → List Fact × Nat × Int
  | 0 => b
  | n + 1 => storeD1 bs (storeN bs b n)
theorem storeN_len {bs : List Int} {b : List Fact × Nat × Int} (hb : b.1.length ≤ 30) : ∀ n, (storeN bs b n).1.length ≤ 30
  | 0 => hb
  | n + 1 => putS_len (storeN_len hb n)
def storeD (bs : List Int) (i : Nat) (h : Int) : Draw (List Fact) := storeN bs ([], belowI bs 10 i, belowH 10 h) (below1 bs 10 i h).toNat
theorem storeD_len {bs : List Int} {i : Nat} {h : Int} : (storeD bs i h).1.length ≤ 30 := storeN_len (by simp) _
theorem r_spec_l7Store {fl : Bool} (k : Nat) (hk : 281474976710656 + 24 ≤ k) (bs : List Int) (hb : bs.length ≤ 140737488355328) (i : Nat) (h : Int) :
    run E noExt k 32 [.ptr 0 0] [[.sl fl (bs.map byteA), .int .i64 (i : Nat), .int .i64 h]] = some (.own 0 false 34 6 ((storeD bs i h).1.map (Fact.enc true)), [[.sl fl (bs.map byteA), .int .i64 ((storeD bs i h).2.1 : Nat), .int .i64 (storeD bs i h).2.2]]) := by
  have c1 := fun n i h => r_spec_l1Below (fl := fl) (k - 1) (by omega) bs hb n i h
  have c2 := fun i h => r_spec_l6Fact (fl := fl) (k - 1) (by omega) bs hb i h
  have c3 := fun s hs f => r_spec_PutFact (k - 1) (by omega) s hs f
  have hlt := below_lt bs (n := 10) (by omega) (by omega) i h
  obtain ⟨k, rfl⟩ : ∃ j, k = j + 1 := ⟨k - 1, by omega⟩
  rw [run_succ rfl rfl, body_eq (nt := 20) (fn := Go.Proofs.Try.f32) (by kernel_rfl) rfl rfl rfl rfl rfl rfl rfl rfl]
  simp -implicitDefEqProofs only [Nat.add_sub_cancel, enc_Fact] at c1 c2 c3
  unfold storeD
  generalize hd : below1 bs 10 i h = d at *
  obtain ⟨m, rfl⟩ : ∃ m : Nat, d = (m : Int) := ⟨d.toNat, by omega⟩
  simp -implicitDefEqProofs only [Int.toNat_natCast]
  simp -implicitDefEqProofs only [W3, ↓D3, ↓DA, Go.Proofs.Try.f32, c1, hd, rows_argsR, boxes_argsR, ↓isCell_argsR, cells_argsR, cellsX_agg, cellsX_int, cellsX_bool, cellsX_str, cellsX_nils, cellsX_sl, cellsX_own, cellsX_ptr, cellsX_cptr, cellsX_undef, dedup_rowsD, nodup_rowsD, all_rowsD, all_rowsT, small_rowsD, bad_argsR, ptr_argsR, mapO_argsR, imp_argsR, lend_argsR4, shut_argsR, mem_rowsD, allmem_rowsD, after_D, freeze_ite, frzB_argsR, away_argsR, calm_argsR, opS_store, slidP_ptr, opS_call, slidM_io1, slidM_io2, away_F, away_ptr, away_int, away_bool, away_nils, away_undef, away_sl, away_agg, away_own, look_nil, evCall_io1, evCall_io2, evCall_io3, evCall_io4, finJ_1, finJ_2, finJ_3, finJ_4, finJ_int, finJ_bool, finJ_str, finJ_nils, finJ_agg, finJ_own, finJ_sl, finJ_tup, look_cons, reduceCtorEq, evCall_mutOwn, evCall_mutAgg, evGive, giveRows, ioBoxes, mutArgs, roArgs, handArg, mutSlots, isPtrB, pairs, pairss, back_nil, back_cons, backO, backE, setBoxes, importB, mode_mut, mode_give, mode_io, mode_ro, List.zip_cons_cons, List.zip_nil_left, List.zip_nil_right, ite_self, ite_true, ite_false, finish_give, finish_mut1, finish_io0, finish_io2, finish_io3, finish_ioc, finI, finC, finW_ptr, SH, noref, isRef, isPtr, noPtr, isBad, AV.isUndef, Int.reduceToNat, id_eq, Int.reduceBEq, Int.reduceLE, Int.reduceLT, AV.cells, AV.isCell, Value.cells, Nat.reduceAdd, Nat.reduceEqDiff, Nat.reduceLT, Nat.reduceLeDiff, Nat.reduceMul, Nat.reduceSub, reduceIte]
  rw [ev_loop]
  refine Eq.trans (loop_list (Q := fun (_ : Unit) x => thenEnd E.P _ _ 1 (thenEv E _ _ _ _ _ (outOf 0 x)) = some (.own 0 false 34 6 ((storeN bs ([], belowI bs 10 i, belowH 10 h) m).1.map (Fact.enc true)), [[.sl fl (bs.map byteA), .int .i64 ((storeN bs ([], belowI bs 10 i, belowH 10 h) m).2.1 : Nat), .int .i64 (storeN bs ([], belowI bs 10 i, belowH 10 h) m).2.2]])) (List.range m) (fun _ _ _ => .inr ()) id
    (fun j _ => { sl := [(0, .ptr 0 0), (3, .own 0 false 34 6 ((storeN bs ([], belowI bs 10 i, belowH 10 h) j).1.map (Fact.enc true))), (4, .int .i64 (((m - j : Nat) : Int)))], bx := [(0, [.sl fl (bs.map byteA), .int .i64 ((storeN bs ([], belowI bs 10 i, belowH 10 h) j).2.1 : Nat), .int .i64 (storeN bs ([], belowI bs 10 i, belowH 10 h) j).2.2])], nx := 2, nt := 20 }) (fun _ _ => True) () ?_ ?_ (by simp; omega) trivial ?_) ?_
  · intro _ _
    rw [List.length_range, Nat.sub_self]
    have h0 : ¬ (0 : Int) < ((0 : Nat) : Int) := by omega
    simp -implicitDefEqProofs only [W3, ↓D3, ↓DA, ↓DP, ↓DC, QX, h0, look_nil, evCall_io1, evCall_io2, evCall_io3, evCall_io4, finJ_1, finJ_2, finJ_3, finJ_4, finJ_int, finJ_bool, finJ_str, finJ_nils, finJ_agg, finJ_own, finJ_sl, finJ_tup, look_cons, reduceCtorEq, evCall_mutOwn, evCall_mutAgg, evGive, giveRows, ioBoxes, mutArgs, roArgs, handArg, mutSlots, isPtrB, pairs, pairss, back_nil, back_cons, backO, backE, setBoxes, importB, mode_mut, mode_give, mode_io, mode_ro, List.zip_cons_cons, List.zip_nil_left, List.zip_nil_right, ite_self, ite_true, ite_false, finish_give, finish_mut1, finish_io0, finish_io2, finish_io3, finish_ioc, finI, finC, finW_ptr, SH, leaf_some, isNormal, Int.reduceToNat, id_eq, Int.reduceBEq, Int.reduceLE, Int.reduceLT, Nat.reduceAdd, Nat.reduceEqDiff, Nat.reduceLT, Nat.reduceLeDiff, Nat.reduceMul, Nat.reduceSub, reduceIte]
    try trace_state
  · intro pre z r _ hs' _
    have hpl : pre.length < m := by have := congrArg List.length hs'; simp at this; omega
    clear hs'
    have hp0 : (0 : Int) < ((m - pre.length : Nat) : Int) := by omega
    have hw1 : IntKind.i64.wrap (((m - pre.length : Nat) : Int) - 1) = ((m - (pre.length + 1) : Nat) : Int) := by rw [IntWalk.i64_in _ (by omega)]; omega
    have hst := storeN_len (bs := bs) (b := ([], belowI bs 10 i, belowH 10 h)) (by simp) pre.length
    simp -implicitDefEqProofs only [storeN]
    generalize storeN bs ([], belowI bs 10 i, belowH 10 h) pre.length = b at *
    have c4 := c3 b.1 (by omega) (factD bs b.2.1 b.2.2).1
    simp -implicitDefEqProofs only [storeD1]
    generalize putS b.1 (factD bs b.2.1 b.2.2).1 = Y at *
    simp -implicitDefEqProofs only [W3, ↓D3, ↓DA, ↓DP, ↓DC, QX, hp0, hw1, c1, c2, c4, scals_Fact, shuts_Fact, look_nil, evCall_io1, evCall_io2, evCall_io3, evCall_io4, finJ_1, finJ_2, finJ_3, finJ_4, finJ_int, finJ_bool, finJ_str, finJ_nils, finJ_agg, finJ_own, finJ_sl, finJ_tup, look_cons, reduceCtorEq, evCall_mutOwn, evCall_mutAgg, evGive, giveRows, ioBoxes, mutArgs, roArgs, handArg, mutSlots, isPtrB, pairs, pairss, back_nil, back_cons, backO, backE, setBoxes, importB, mode_mut, mode_give, mode_io, mode_ro, List.zip_cons_cons, List.zip_nil_left, List.zip_nil_right, ite_self, ite_true, ite_false, finish_give, finish_mut1, finish_io0, finish_io2, finish_io3, finish_ioc, finI, finC, finW_ptr, SH, keep_32_3, leaf_some, isNormal, Int.reduceToNat, id_eq, Int.reduceBEq, Int.reduceLE, Int.reduceLT, Nat.reduceAdd, Nat.reduceEqDiff, Nat.reduceLT, Nat.reduceLeDiff, Nat.reduceMul, Nat.reduceSub, reduceIte]
    try trace_state
  · simp -implicitDefEqProofs only [firstRegion]
    rw [keep_32_3]
    simp -implicitDefEqProofs only [W3, ↓D3, ↓DA, ↓DP, ↓DC, storeN, Nat.sub_zero, Int.reduceToNat, id_eq, Int.reduceBEq, Int.reduceLE, Int.reduceLT, SH, Nat.reduceAdd, Nat.reduceEqDiff, Nat.reduceLT, Nat.reduceLeDiff, Nat.reduceMul, Nat.reduceSub, reduceIte]
    try trace_state
  · rfl
theorem evCall_give1 {Φ : Phi} {nid n : Nat} {x : AV} {dst : Option Nat} {st : St} : evCall Φ [.give] nid n [x] [] dst st = evGive Φ nid n [(.give, x)] dst st := rfl
theorem opQ_assign {Φ : Phi} {nid : Nat} {x : Operand} {st : St} {dst : Option Nat} {type : TypeId} {pos : String} {after : Array Edge} {guard : Option (Nat × Bool)} :
    evOpQ E Φ nid { dst, op := .assign x, type, pos, after, guard } st = st.put dst (st.val x) := rfl
def maxI (a b : Int) : Int := if a < b then b else a
def caseSub (q : Request) (f : Fact) : Int := if (f.kind == 1) = true then q.person else if (f.kind == 2) = true then q.person else if (f.kind == 3) = true then q.device else q.program
def caseVal (q : Request) (f : Fact) : Int := if (f.kind == 1) = true then f.value else if (f.kind == 2) = true then q.device else f.value
def caseF (bs : List Int) (q : Request) (f : Fact) (i : Nat) (h : Int) : Fact :=
  ⟨f.kind, caseSub q f, caseVal q f, f.issuer, maxI 0 (IntKind.i64.wrap (q.now - below1 bs 6 i h)), IntKind.i64.wrap (q.now + below1 bs 10 (belowI bs 6 i) (belowH 6 h))⟩
def caseStep (bs : List Int) (q : Request) (b : List Fact × Nat × Int) : List Fact × Nat × Int :=
  (putS b.1 (caseF bs q (factD bs b.2.1 b.2.2).1 (factD bs b.2.1 b.2.2).2.1 (factD bs b.2.1 b.2.2).2.2), belowI bs 10 (belowI bs 6 (factD bs b.2.1 b.2.2).2.1), belowH 10 (belowH 6 (factD bs b.2.1 b.2.2).2.2))
def caseN (bs : List Int) (q : Request) (b : List Fact × Nat × Int) : Nat → List Fact × Nat × Int
  | 0 => b
  | n + 1 => caseStep bs q (caseN bs q b n)
theorem caseN_len {bs : List Int} {q : Request} {b : List Fact × Nat × Int} (hb : b.1.length ≤ 30) : ∀ n, (caseN bs q b n).1.length ≤ 30
  | 0 => hb
  | n + 1 => putS_len (caseN_len hb n)
def caseD (bs : List Int) (i : Nat) (h : Int) : List Includes × List Fact × Request × Nat × Int :=
  let P := pairsD bs i h; let S := storeD bs P.2.1 P.2.2; let Q := requestD bs S.2.1 S.2.2
  let R := caseN bs Q.1 (S.1, belowI bs 5 Q.2.1, belowH 5 Q.2.2) (below1 bs 5 Q.2.1 Q.2.2).toNat
  (P.1, R.1, Q.1, R.2.1, R.2.2)
theorem caseD_len {bs : List Int} {i : Nat} {h : Int} : (caseD bs i h).2.1.length ≤ 30 := by
  unfold caseD
  simp only
  refine caseN_len ?_ _
  exact storeD_len
theorem caseD_len1 {bs : List Int} {i : Nat} {h : Int} : (caseD bs i h).1.length ≤ 3 := pairsD_len
theorem r_spec_l17Case {fl : Bool} (k : Nat) (hk : 281474976710656 + 30 ≤ k) (bs : List Int) (hb : bs.length ≤ 140737488355328) (i : Nat) (h : Int) :
    run E noExt k 14 [.ptr 0 0] [[.sl fl (bs.map byteA), .int .i64 (i : Nat), .int .i64 h]] =
      some (.tup [.own 0 false 79 2 ((caseD bs i h).1.map (Includes.enc true)), .own 1 false 34 6 ((caseD bs i h).2.1.map (Fact.enc true)), (caseD bs i h).2.2.1.enc true], [[.sl fl (bs.map byteA), .int .i64 ((caseD bs i h).2.2.2.1 : Nat), .int .i64 (caseD bs i h).2.2.2.2]]) := by
  have c1 := fun n i h => r_spec_l1Below (fl := fl) (k - 1) (by omega) bs hb n i h
  have c2 := fun i h => r_spec_l6Fact (fl := fl) (k - 1) (by omega) bs hb i h
  have c3 := fun s hs f => r_spec_PutFact (k - 1) (by omega) s hs f
  have c5 := fun i h => r_spec_l14Pairs (fl := fl) (k - 1) (by omega) bs hb i h
  have c6 := fun i h => r_spec_l7Store (fl := fl) (k - 1) (by omega) bs hb i h
  have c7 := fun i h => r_spec_l17Request (fl := fl) (k - 1) (by omega) bs hb i h
  have c8 : ∀ a b, run E noExt (k - 1) 35 [.int .i64 a, .int .i64 b] [] = some (.int .i64 (maxI a b), []) := fun a b => r_spec_Max (k - 1) (by omega) a b
  obtain ⟨k, rfl⟩ : ∃ j, k = j + 1 := ⟨k - 1, by omega⟩
  rw [run_succ rfl rfl, body_eq (nt := 69) (fn := Go.Proofs.Try.f14) (by kernel_rfl) rfl rfl rfl rfl rfl rfl rfl rfl]
  simp -implicitDefEqProofs only [Nat.add_sub_cancel, enc_Fact, enc_Request] at c1 c2 c3 c5 c6 c7 c8
  unfold caseD
  simp only
  have d5 := c5 i h
  generalize hP : pairsD bs i h = P at *
  have d6 := c6 P.2.1 P.2.2
  have hS0 : (storeD bs P.2.1 P.2.2).1.length ≤ 30 := storeD_len
  generalize hS : storeD bs P.2.1 P.2.2 = S at *
  have d7 := c7 S.2.1 S.2.2
  generalize hQ : requestD bs S.2.1 S.2.2 = Q at *
  have hlt := below_lt bs (n := 5) (by omega) (by omega) Q.2.1 Q.2.2
  generalize hd : below1 bs 5 Q.2.1 Q.2.2 = d at *
  obtain ⟨m, rfl⟩ : ∃ m : Nat, d = (m : Int) := ⟨d.toNat, by omega⟩
  simp -implicitDefEqProofs only [Int.toNat_natCast]
  simp -implicitDefEqProofs only [W3, ↓D3, ↓DA, Go.Proofs.Try.f14, c1, d5, d6, d7, hd, scals_Fact, tscals_Includes, rows_argsR, boxes_argsR, ↓isCell_argsR, cells_argsR, cellsX_agg, cellsX_int, cellsX_bool, cellsX_str, cellsX_nils, cellsX_sl, cellsX_own, cellsX_ptr, cellsX_cptr, cellsX_undef, dedup_rowsD, nodup_rowsD, all_rowsD, all_rowsT, small_rowsD, bad_argsR, ptr_argsR, mapO_argsR, imp_argsR, lend_argsR4, shut_argsR, mem_rowsD, allmem_rowsD, after_D, freeze_ite, frzB_argsR, away_argsR, calm_argsR, opS_store, slidP_ptr, opS_call, slidM_io1, slidM_io2, away_F, away_ptr, away_int, away_bool, away_nils, away_undef, away_sl, away_agg, away_own, look_nil, evCall_io1, evCall_io2, evCall_io3, evCall_io4, finJ_1, finJ_2, finJ_3, finJ_4, finJ_int, finJ_bool, finJ_str, finJ_nils, finJ_agg, finJ_own, finJ_sl, finJ_tup, look_cons, reduceCtorEq, evCall_mutOwn, evCall_mutAgg, evGive, giveRows, ioBoxes, mutArgs, roArgs, handArg, mutSlots, isPtrB, pairs, pairss, back_nil, back_cons, backO, backE, setBoxes, importB, mode_mut, mode_give, mode_io, mode_ro, List.zip_cons_cons, List.zip_nil_left, List.zip_nil_right, ite_self, ite_true, ite_false, finish_give, finish_mut1, finish_io0, finish_io2, finish_io3, finish_ioc, finI, finC, finW_ptr, SH, noref, isRef, isPtr, noPtr, isBad, AV.isUndef, Int.reduceToNat, id_eq, Int.reduceBEq, Int.reduceLE, Int.reduceLT, AV.cells, AV.isCell, Value.cells, Nat.reduceAdd, Nat.reduceEqDiff, Nat.reduceLT, Nat.reduceLeDiff, Nat.reduceMul, Nat.reduceSub, reduceIte]
  rw [ev_loop]
  generalize hB : (S.1, belowI bs 5 Q.2.1, belowH 5 Q.2.2) = B0 at *
  refine Eq.trans (loop_list (Q := fun (_ : Unit) x => thenEnd E.P _ _ 1 (thenEv E _ _ _ _ _ (outOf 0 x)) = some (.tup [.own 0 false 79 2 (P.1.map (Includes.enc true)), .own 1 false 34 6 ((caseN bs Q.1 B0 m).1.map (Fact.enc true)), .agg [.int .i64 Q.1.person, .int .i64 Q.1.device, .int .i64 Q.1.program, .int .i64 Q.1.action, .int .i64 Q.1.object, .int .i64 Q.1.now]], [[.sl fl (bs.map byteA), .int .i64 ((caseN bs Q.1 B0 m).2.1 : Nat), .int .i64 (caseN bs Q.1 B0 m).2.2]])) (List.range m) (fun _ _ _ => .inr ()) id
    (fun j _ => { sl := [(0, .ptr 0 0), (4, .ptr 1 0), (5, .own 0 false 79 2 (P.1.map (Includes.enc true))), (6, .own 1 false 34 6 ((caseN bs Q.1 B0 j).1.map (Fact.enc true))), (7, .ptr 2 0), (8, .int .i64 (((m - j : Nat) : Int)))], bx := [(0, [.sl fl (bs.map byteA), .int .i64 ((caseN bs Q.1 B0 j).2.1 : Nat), .int .i64 (caseN bs Q.1 B0 j).2.2]), (1, [.int .i64 0, .int .i64 0, .int .i64 0, .int .i64 0, .int .i64 0, .int .i64 0]), (2, [.int .i64 Q.1.person, .int .i64 Q.1.device, .int .i64 Q.1.program, .int .i64 Q.1.action, .int .i64 Q.1.object, .int .i64 Q.1.now])], nx := 5, nt := 69 }) (fun _ _ => True) () ?_ ?_ (by simp; omega) trivial ?_) ?_
  · intro _ _
    rw [List.length_range, Nat.sub_self]
    have h0 : ¬ (0 : Int) < ((0 : Nat) : Int) := by omega
    simp -implicitDefEqProofs only [W3, ↓D3, ↓DA, ↓DP, ↓DC, QX, h0, opQ_assign, finish_manyI, resultsOf, resultOf, plan_14_17, plan_14_18, plan_14_20, look_nil, evCall_io1, evCall_io2, evCall_io3, evCall_io4, finJ_1, finJ_2, finJ_3, finJ_4, finJ_int, finJ_bool, finJ_str, finJ_nils, finJ_agg, finJ_own, finJ_sl, finJ_tup, look_cons, reduceCtorEq, evCall_mutOwn, evCall_mutAgg, evGive, giveRows, ioBoxes, mutArgs, roArgs, handArg, mutSlots, isPtrB, pairs, pairss, back_nil, back_cons, backO, backE, setBoxes, importB, mode_mut, mode_give, mode_io, mode_ro, List.zip_cons_cons, List.zip_nil_left, List.zip_nil_right, ite_self, ite_true, ite_false, finish_give, finish_mut1, finish_io0, finish_io2, finish_io3, finish_ioc, finI, finC, finW_ptr, SH, leaf_some, isNormal, Int.reduceToNat, id_eq, Int.reduceBEq, Int.reduceLE, Int.reduceLT, Nat.reduceAdd, Nat.reduceEqDiff, Nat.reduceLT, Nat.reduceLeDiff, Nat.reduceMul, Nat.reduceSub, reduceIte]
    try trace_state
  · intro pre z r _ hs' _
    have hpl : pre.length < m := by have := congrArg List.length hs'; simp at this; omega
    clear hs'
    have hp0 : (0 : Int) < ((m - pre.length : Nat) : Int) := by omega
    have hw1 : IntKind.i64.wrap (((m - pre.length : Nat) : Int) - 1) = ((m - (pre.length + 1) : Nat) : Int) := by rw [IntWalk.i64_in _ (by omega)]; omega
    have hst := caseN_len (bs := bs) (q := Q.1) (b := B0) (by rw [← hB]; exact hS0) pre.length
    simp -implicitDefEqProofs only [caseN]
    generalize caseN bs Q.1 B0 pre.length = b at *
    have c4 := c3 b.1 (by omega) (caseF bs Q.1 (factD bs b.2.1 b.2.2).1 (factD bs b.2.1 b.2.2).2.1 (factD bs b.2.1 b.2.2).2.2)
    have d2 := c2 b.2.1 b.2.2
    simp -implicitDefEqProofs only [caseStep]
    generalize factD bs b.2.1 b.2.2 = F at *
    generalize hY : putS b.1 (caseF bs Q.1 F.1 F.2.1 F.2.2) = Y at *
    simp -implicitDefEqProofs only [caseF, caseSub, caseVal] at c4
    rcases five (!(F.1.kind == 1)) (F.1.kind == 2) (!(F.1.kind == 3)) true with hk1 | ⟨hk1, hk2⟩ | ⟨hk1, hk2, hk3⟩ | ⟨hk1, hk2, hk3, _⟩ | ⟨_, _, _, hk4⟩
    · rw [Bool.not_eq_false'] at hk1
      simp -implicitDefEqProofs only [hk1, if_true] at c4
      simp -implicitDefEqProofs only [W3, ↓D3, ↓DA, ↓DP, ↓DC, QX, hp0, hw1, hk1, c1, d2, c4, c8, opS_call, slidM_io2, away_ptr, away_int, away_F, scals_Fact, shuts_Fact, plan_14_17, plan_14_18, plan_14_20, look_nil, evCall_io1, evCall_io2, evCall_io3, evCall_io4, finJ_1, finJ_2, finJ_3, finJ_4, finJ_int, finJ_bool, finJ_str, finJ_nils, finJ_agg, finJ_own, finJ_sl, finJ_tup, look_cons, reduceCtorEq, evCall_mutOwn, evCall_mutAgg, evGive, giveRows, ioBoxes, mutArgs, roArgs, handArg, mutSlots, isPtrB, pairs, pairss, back_nil, back_cons, backO, backE, setBoxes, importB, mode_mut, mode_give, mode_io, mode_ro, List.zip_cons_cons, List.zip_nil_left, List.zip_nil_right, ite_self, ite_true, ite_false, finish_give, finish_mut1, finish_io0, finish_io2, finish_io3, finish_ioc, finI, finC, finW_ptr, SH, keep_14_5, leaf_some, isNormal, Int.reduceToNat, id_eq, Int.reduceBEq, Int.reduceLE, Int.reduceLT, Nat.reduceAdd, Nat.reduceEqDiff, Nat.reduceLT, Nat.reduceLeDiff, Nat.reduceMul, Nat.reduceSub, reduceIte]
      try trace_state
    · rw [Bool.not_eq_true'] at hk1
      simp -implicitDefEqProofs only [hk1, hk2, Bool.false_eq_true, if_false, if_true] at c4
      simp -implicitDefEqProofs only [W3, ↓D3, ↓DA, ↓DP, ↓DC, QX, hp0, hw1, hk1, hk2, c1, d2, c4, c8, opS_call, slidM_io2, away_ptr, away_int, away_F, scals_Fact, shuts_Fact, plan_14_17, plan_14_18, plan_14_20, look_nil, evCall_io1, evCall_io2, evCall_io3, evCall_io4, finJ_1, finJ_2, finJ_3, finJ_4, finJ_int, finJ_bool, finJ_str, finJ_nils, finJ_agg, finJ_own, finJ_sl, finJ_tup, look_cons, reduceCtorEq, evCall_mutOwn, evCall_mutAgg, evGive, giveRows, ioBoxes, mutArgs, roArgs, handArg, mutSlots, isPtrB, pairs, pairss, back_nil, back_cons, backO, backE, setBoxes, importB, mode_mut, mode_give, mode_io, mode_ro, List.zip_cons_cons, List.zip_nil_left, List.zip_nil_right, ite_self, ite_true, ite_false, finish_give, finish_mut1, finish_io0, finish_io2, finish_io3, finish_ioc, finI, finC, finW_ptr, SH, keep_14_5, leaf_some, isNormal, Int.reduceToNat, id_eq, Int.reduceBEq, Int.reduceLE, Int.reduceLT, Nat.reduceAdd, Nat.reduceEqDiff, Nat.reduceLT, Nat.reduceLeDiff, Nat.reduceMul, Nat.reduceSub, reduceIte]
      try trace_state
    · rw [Bool.not_eq_true'] at hk1
      rw [Bool.not_eq_false'] at hk3
      simp -implicitDefEqProofs only [hk1, hk2, hk3, Bool.false_eq_true, if_false, if_true] at c4
      simp -implicitDefEqProofs only [W3, ↓D3, ↓DA, ↓DP, ↓DC, QX, hp0, hw1, hk1, hk2, hk3, c1, d2, c4, c8, opS_call, slidM_io2, away_ptr, away_int, away_F, scals_Fact, shuts_Fact, plan_14_17, plan_14_18, plan_14_20, look_nil, evCall_io1, evCall_io2, evCall_io3, evCall_io4, finJ_1, finJ_2, finJ_3, finJ_4, finJ_int, finJ_bool, finJ_str, finJ_nils, finJ_agg, finJ_own, finJ_sl, finJ_tup, look_cons, reduceCtorEq, evCall_mutOwn, evCall_mutAgg, evGive, giveRows, ioBoxes, mutArgs, roArgs, handArg, mutSlots, isPtrB, pairs, pairss, back_nil, back_cons, backO, backE, setBoxes, importB, mode_mut, mode_give, mode_io, mode_ro, List.zip_cons_cons, List.zip_nil_left, List.zip_nil_right, ite_self, ite_true, ite_false, finish_give, finish_mut1, finish_io0, finish_io2, finish_io3, finish_ioc, finI, finC, finW_ptr, SH, keep_14_5, leaf_some, isNormal, Int.reduceToNat, id_eq, Int.reduceBEq, Int.reduceLE, Int.reduceLT, Nat.reduceAdd, Nat.reduceEqDiff, Nat.reduceLT, Nat.reduceLeDiff, Nat.reduceMul, Nat.reduceSub, reduceIte]
      try trace_state
    · rw [Bool.not_eq_true'] at hk1 hk3
      simp -implicitDefEqProofs only [hk1, hk2, hk3, Bool.false_eq_true, if_false] at c4
      simp -implicitDefEqProofs only [W3, ↓D3, ↓DA, ↓DP, ↓DC, QX, hp0, hw1, hk1, hk2, hk3, c1, d2, c4, c8, opS_call, slidM_io2, away_ptr, away_int, away_F, scals_Fact, shuts_Fact, plan_14_17, plan_14_18, plan_14_20, look_nil, evCall_io1, evCall_io2, evCall_io3, evCall_io4, finJ_1, finJ_2, finJ_3, finJ_4, finJ_int, finJ_bool, finJ_str, finJ_nils, finJ_agg, finJ_own, finJ_sl, finJ_tup, look_cons, reduceCtorEq, evCall_mutOwn, evCall_mutAgg, evGive, giveRows, ioBoxes, mutArgs, roArgs, handArg, mutSlots, isPtrB, pairs, pairss, back_nil, back_cons, backO, backE, setBoxes, importB, mode_mut, mode_give, mode_io, mode_ro, List.zip_cons_cons, List.zip_nil_left, List.zip_nil_right, ite_self, ite_true, ite_false, finish_give, finish_mut1, finish_io0, finish_io2, finish_io3, finish_ioc, finI, finC, finW_ptr, SH, keep_14_5, leaf_some, isNormal, Int.reduceToNat, id_eq, Int.reduceBEq, Int.reduceLE, Int.reduceLT, Nat.reduceAdd, Nat.reduceEqDiff, Nat.reduceLT, Nat.reduceLeDiff, Nat.reduceMul, Nat.reduceSub, reduceIte]
      try trace_state
    · simp at hk4
  · simp -implicitDefEqProofs only [firstRegion]
    rw [keep_14_5]
    rw [← hB]
    simp -implicitDefEqProofs only [W3, ↓D3, ↓DA, ↓DP, ↓DC, caseN, Nat.sub_zero, Int.reduceToNat, id_eq, Int.reduceBEq, Int.reduceLE, Int.reduceLT, SH, Nat.reduceAdd, Nat.reduceEqDiff, Nat.reduceLT, Nat.reduceLeDiff, Nat.reduceMul, Nat.reduceSub, reduceIte]
    try trace_state
  · rfl
theorem r_laws_big {fl : Bool} (k : Nat) (hk : 281474976710656 + 1 ≤ k) (bs : List Int) (hb : bs.length ≤ 140737488355328) :
    run E noExt k 4 [.sl fl (bs.map byteA)] [] = some (.bool (decide ((1048576 : Int) < (bs.length : Nat))), []) := by
  obtain ⟨k, rfl⟩ : ∃ j, k = j + 1 := ⟨k - 1, by omega⟩
  rw [run_succ rfl rfl, body_eq (nt := 6) (fn := Go.Proofs.Try.f4) (by kernel_rfl) rfl rfl rfl rfl rfl rfl rfl rfl]
  simp -implicitDefEqProofs only [W3, ↓D3, ↓DA, ↓DP, ↓DC, Go.Proofs.Try.f4, SH, Int.reduceToNat, id_eq, Int.reduceBEq, Int.reduceLE, Int.reduceLT, Nat.reduceAdd, Nat.reduceEqDiff, Nat.reduceLT, Nat.reduceLeDiff, Nat.reduceMul, Nat.reduceSub, reduceIte]
end Go.Proofs.Ytggkeechdakccaa.Flat
