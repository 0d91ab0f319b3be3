/-
The draws: any policy.
-/
import Derived.Test.YtigfcbcnfppmcaaGreatEqDW
set_option linter.unusedVariables false
set_option linter.unusedSimpArgs false
set_option maxRecDepth 10000
namespace Go.Proofs.YtigfcbcnfppmcaaGreat.Flat
theorem opQ_lit {Φ : Phi} {nid t len : Nat} {ps : Array (Nat × Operand)} {st : St} {dst : Option Nat} {type : TypeId} {pos : String} {after : Array Edge} {guard : Option (Nat × Bool)} :
    evOpQ E Φ nid { dst, op := .buildSlice t len ps, type, pos, after, guard } st = if (ps.toList.flatMap fun p => (st.val p.2).rows) = [] then evBuildSlice E.P t len (ps.toList.map fun p => (p.1, st.val p.2)) nid dst st else none := rfl
theorem append_rowC {t u id id2 nid : Nat} {l : List Rule} {e a o : Int} {c : Cond} {dst : Option Nat} {st : St} (htu : t = 44) (hu : u = t) (ht : st.tree = false) (hl : l.length ≤ 1000000) :
    evAppend E.P t u (rowQ id l) (.own id2 false 53 7 [.agg [.int .i64 e, .int .i64 a, .int .i64 o, .int .i64 c.op, .int .i64 c.a, .int .i64 c.b, .sl true (c.args.map (Cond.enc true))]]) nid dst st = (st.mapO (scrO (rowsQ id l)) .ptr (scrE (rowsQ id l))).put dst (rowQ nid (l ++ [⟨e, a, o, c⟩])) :=
  append_rowQ (y := ⟨e, a, o, c⟩) htu hu ht hl
theorem len_rowQ {id : Nat} {l : List Rule} : evLen E.P 44 (rowQ id l) = some (.int .i64 (l.length : Nat)) := by
  rcases rowQ_cases l with ⟨h0, h⟩ | ⟨_, h⟩
  · rw [(h _).1, h0]; rfl
  · rw [(h _).1]
    simp -implicitDefEqProofs only [evLen, List.length_map]
    rfl
def oddRule (bs : List Int) (i : Nat) (h : Int) : Draw Rule :=
  let i1 := belowI bs 4 i; let h1 := belowH 4 h
  let i2 := belowI bs ((4 : Nat) : Int) i1; let h2 := belowH ((4 : Nat) : Int) h1
  let n := anyNameD bs i2 h2
  let c := anyCondD bs n.2.1 n.2.2
  (⟨IntKind.i64.wrap (below1 bs 4 i h - 1), oneOf bs [-2, -1, 5, 6] i1 h1, n.1, c.1⟩, c.2.1, c.2.2)
def anyPolicyN (bs : List Int) (p : Policy) (i : Nat) (h : Int) : Nat → Draw Policy
  | 0 => (⟨oneOf bs [-1, 999, 1000] i h, p.rules⟩, belowI bs ((3 : Nat) : Int) i, belowH ((3 : Nat) : Int) h)
  | 1 => (⟨p.version, p.rules ++ [(oddRule bs i h).1]⟩, (oddRule bs i h).2.1, (oddRule bs i h).2.2)
  | 2 => (⟨p.version, (rulesN bs (p.rules, i, h) (9 - p.rules.length)).1⟩, (rulesN bs (p.rules, i, h) (9 - p.rules.length)).2.1, (rulesN bs (p.rules, i, h) (9 - p.rules.length)).2.2)
  | _ => (p, i, h)
def anyPolicyD (bs : List Int) (i : Nat) (h : Int) : Draw Policy :=
  anyPolicyN bs (policyD bs i h).1 (belowI bs 8 (policyD bs i h).2.1) (belowH 8 (policyD bs i h).2.2) (below1 bs 8 (policyD bs i h).2.1 (policyD bs i h).2.2).toNat
theorem r_spec_l19Any {fl : Bool} (k : Nat) (hk : 290271069732864 + 14 ≤ k) (bs : List Int) (hb : bs.length ≤ 140737488355328) (i : Nat) (h : Int) :
    run E noExt k 49 [.ptr 0 0] [[.sl fl (bs.map byteA), .int .i64 (i : Nat), .int .i64 h]] = some (.agg [.int .i64 (anyPolicyD bs i h).1.version, rowQ 0 (anyPolicyD bs i h).1.rules], [[.sl fl (bs.map byteA), .int .i64 ((anyPolicyD bs i h).2.1 : Nat), .int .i64 (anyPolicyD bs i h).2.2]]) := by
  have c1 := fun n i h => r_spec_l1Below (fl := fl) (k - 1) (by omega) bs hb n i h
  have c2 := fun i h => r_spec_l19Rule (fl := fl) (k - 1) (by omega) bs hb i h
  have c3 := fun i h => r_spec_l19Policy (fl := fl) (k - 1) (by omega) bs hb i h
  have c4 := fun i h => r_spec_l1Int (fl := fl) (k - 1) (by omega) bs hb [-1, 999, 1000] (by decide) i h
  have c5 := fun i h => r_spec_l1Int (fl := fl) (k - 1) (by omega) bs hb [-2, -1, 5, 6] (by decide) i h
  have c6 := fun i h => r_spec_l5Any (fl := fl) (k - 1) (by omega) bs hb i h
  have c7 := fun i h => r_spec_l15Any (fl := fl) (k - 1) (by omega) bs hb i h
  have hlt := below_lt bs (n := 8) (by omega) (by omega) (policyD bs i h).2.1 (policyD bs i h).2.2
  have hlen := policyD_len (bs := bs) (i := i) (h := h)
  obtain ⟨k, rfl⟩ : ∃ j, k = j + 1 := ⟨k - 1, by omega⟩
  rw [run_succ rfl rfl, body_eq (nt := 46) (fn := Go.Proofs.Tryz.f49) (by kernel_rfl) rfl rfl rfl rfl rfl rfl rfl rfl]
  simp -implicitDefEqProofs only [Nat.add_sub_cancel, Rule.dAV, dAV_D, List.map_cons, List.map_nil, List.length_cons, List.length_nil, Nat.zero_add, Nat.reduceAdd] at c1 c2 c3 c4 c5 c6 c7
  unfold anyPolicyD
  have c8 := c3 i h
  generalize policyD bs i h = X at *
  generalize hd : below1 bs 8 X.2.1 X.2.2 = d at *
  generalize hi1 : belowI bs 8 X.2.1 = i1 at *
  generalize hh1 : belowH 8 X.2.2 = h1 at *
  have hrl : X.1.rules.length ≤ 1000000 := by omega
  have hm : d = 2 ∨ d = 0 ∨ d = 1 ∨ (d = 3 ∨ d = 4 ∨ d = 5 ∨ d = 6 ∨ d = 7) := by omega
  rcases hm with rfl | rfl | rfl | hm
  · simp -implicitDefEqProofs only [anyPolicyN, Int.reduceToNat]
    simp -implicitDefEqProofs only [QS, QN, QG, QO, ZRS, ↓ZDS, ZRG, ↓ZDG, ZRO, ↓ZDO, hi1, hh1, hrl, hd, finish_cell1, finish_cell2, finCell_some, Go.Proofs.Tryz.f49, c1, c8, rows_rowQ, boxes_rowQ, ↓isCell_rowQ, cells_rowQ, dedup_rowsQ, nodup_rowsQ, all_rowsQ, allT_rowsQ, small_rowsQ, bad_rowQ, ptr_rowQ, away_rowQ, mapO_rowQ, imp_rowQ, lend_rowQ, shut_rowQ, mem_rowsQ, calm_rowQ, allD_rowsQ, allE_rowsQ, frzD_rowQ, frzB_rowQ, freezeD_all, rows_argsR, boxes_argsR, ↓isCell_argsR, cells_argsR, cellsX_agg, cellsX_int, cellsX_bool, cellsX_str, cellsX_nils, cellsX_sl, cellsX_own, cellsX_ptr, cellsX_cptr, cellsX_undef, dedup_rowsD, nodup_rowsD, all_rowsD, all_rowsT, small_rowsD, bad_argsR, ptr_argsR, mapO_argsR, imp_argsR, lend_argsR4, shut_argsR, mem_rowsD, allmem_rowsD, after_D, freeze_ite, frzB_argsR, away_argsR, calm_argsR, opS_store, slidP_ptr, opS_call, slidM_io1, slidM_io2, away_F, away_ptr, away_int, away_bool, away_nils, away_undef, away_sl, away_agg, away_own, look_nil, evCall_io1, evCall_io2, evCall_io3, evCall_io4, finJ_1, finJ_2, finJ_3, finJ_4, finJ_int, finJ_bool, finJ_str, finJ_nils, finJ_agg, finJ_own, finJ_sl, finJ_tup, look_cons, reduceCtorEq, evCall_mutOwn, evCall_mutAgg, evGive, giveRows, ioBoxes, mutArgs, roArgs, handArg, mutSlots, isPtrB, pairs, pairss, back_nil, back_cons, backO, backE, setBoxes, importB, mode_mut, mode_give, mode_io, mode_ro, List.zip_cons_cons, List.zip_nil_left, List.zip_nil_right, ite_self, ite_true, ite_false, finish_give, finish_mut1, finish_io0, finish_io2, finish_io3, finish_ioc, finI, finC, finW_ptr, SO, SH, noref, isRef, isPtr, noPtr, isBad, AV.isUndef, SN, evCutRow, Int.reduceToNat, id_eq, Int.reduceBEq, Int.reduceLE, Int.reduceLT, SS, one_ne2, num_ne2, TIS, MDS, AV.isCell, Value.cells, Nat.reduceAdd, Nat.reduceEqDiff, Nat.reduceLT, Nat.reduceLeDiff, Nat.reduceMul, Nat.reduceSub, reduceIte]
    rw [ev_loop]
    refine Eq.trans (loop_list (Q := fun (_ : Unit) x => thenEnd E.P _ _ 1 (thenEv E _ _ _ _ _ (outOf 0 (outOf 1 x))) = some (.agg [.int .i64 X.1.version, rowQ 0 (rulesN bs (X.1.rules, i1, h1) (9 - X.1.rules.length)).1], [[.sl fl (bs.map byteA), .int .i64 ((rulesN bs (X.1.rules, i1, h1) (9 - X.1.rules.length)).2.1 : Nat), .int .i64 (rulesN bs (X.1.rules, i1, h1) (9 - X.1.rules.length)).2.2]])) (List.range (9 - X.1.rules.length)) (fun _ _ _ => .inr ()) id
      (fun j _ => { sl := [(0, .ptr 0 0), (2, .ptr 1 0), (3, .ptr 2 0)], bx := [(0, [.sl fl (bs.map byteA), .int .i64 ((rulesN bs (X.1.rules, i1, h1) j).2.1 : Nat), .int .i64 (rulesN bs (X.1.rules, i1, h1) j).2.2]), (1, [.int .i64 0, .nils]), (2, [.int .i64 X.1.version, rowQ 0 (rulesN bs (X.1.rules, i1, h1) j).1])], nx := (rowsQ 0 (rulesN bs (X.1.rules, i1, h1) j).1).length + 3, nt := 46 }) (fun _ _ => True) () ?_ ?_ (by simp; omega) trivial ?_) ?_
    · intro _ _
      rw [List.length_range]
      have h0 : ¬ (((rulesN bs (X.1.rules, i1, h1) (9 - X.1.rules.length)).1.length : Nat) : Int) < 9 := by rw [rulesN_len]; simp only; omega
      generalize rulesN bs (X.1.rules, i1, h1) (9 - X.1.rules.length) = b at *
      rcases rowsQ_len b.1 with hL | hL
      all_goals
        simp -implicitDefEqProofs only [QS, QN, QG, QO, ZRS, ↓ZDS, ZRG, ↓ZDG, ZRO, ↓ZDO, h0, hL, len_rowQ, finish_cell1, finish_cell2, finCell_some, rows_rowQ, boxes_rowQ, ↓isCell_rowQ, cells_rowQ, dedup_rowsQ, nodup_rowsQ, all_rowsQ, allT_rowsQ, small_rowsQ, bad_rowQ, ptr_rowQ, away_rowQ, mapO_rowQ, imp_rowQ, lend_rowQ, shut_rowQ, mem_rowsQ, calm_rowQ, allD_rowsQ, allE_rowsQ, frzD_rowQ, frzB_rowQ, freezeD_all, rows_argsR, boxes_argsR, ↓isCell_argsR, cells_argsR, cellsX_agg, cellsX_int, cellsX_bool, cellsX_str, cellsX_nils, cellsX_sl, cellsX_own, cellsX_ptr, cellsX_cptr, cellsX_undef, dedup_rowsD, nodup_rowsD, all_rowsD, all_rowsT, small_rowsD, bad_argsR, ptr_argsR, mapO_argsR, imp_argsR, lend_argsR4, shut_argsR, mem_rowsD, allmem_rowsD, after_D, freeze_ite, frzB_argsR, away_argsR, calm_argsR, opS_store, slidP_ptr, opS_call, slidM_io1, slidM_io2, away_F, away_ptr, away_int, away_bool, away_nils, away_undef, away_sl, away_agg, away_own, look_nil, evCall_io1, evCall_io2, evCall_io3, evCall_io4, finJ_1, finJ_2, finJ_3, finJ_4, finJ_int, finJ_bool, finJ_str, finJ_nils, finJ_agg, finJ_own, finJ_sl, finJ_tup, look_cons, reduceCtorEq, evCall_mutOwn, evCall_mutAgg, evGive, giveRows, ioBoxes, mutArgs, roArgs, handArg, mutSlots, isPtrB, pairs, pairss, back_nil, back_cons, backO, backE, setBoxes, importB, mode_mut, mode_give, mode_io, mode_ro, List.zip_cons_cons, List.zip_nil_left, List.zip_nil_right, ite_self, ite_true, ite_false, finish_give, finish_mut1, finish_io0, finish_io2, finish_io3, finish_ioc, finI, finC, finW_ptr, SO, SH, noref, isRef, isPtr, noPtr, isBad, AV.isUndef, leaf_some, isNormal, ifEv_bool, gate_bool, gateP_bool, gateQ_bool, pick_bool, SN, evCutRow, Int.reduceToNat, id_eq, Int.reduceBEq, Int.reduceLE, Int.reduceLT, SS, one_ne2, num_ne2, TIS, MDS, AV.isCell, Value.cells, Nat.reduceAdd, Nat.reduceEqDiff, Nat.reduceLT, Nat.reduceLeDiff, Nat.reduceMul, Nat.reduceSub, reduceIte]
        try trace_state
    · intro pre z r _ hs' _
      have hpl : pre.length < 9 - X.1.rules.length := by have := congrArg List.length hs'; simp at this; omega
      clear hs'
      have h0 : (((rulesN bs (X.1.rules, i1, h1) pre.length).1.length : Nat) : Int) < 9 := by rw [rulesN_len]; simp only; omega
      have hrl : (rulesN bs (X.1.rules, i1, h1) pre.length).1.length ≤ 1000000 := by omega
      simp -implicitDefEqProofs only [rulesN]
      generalize rulesN bs (X.1.rules, i1, h1) pre.length = b at *
      rcases rowsQ_len b.1 with hL | hL
      all_goals
        simp -implicitDefEqProofs only [QS, QN, QG, QO, ZRS, ↓ZDS, ZRG, ↓ZDG, ZRO, ↓ZDO, hL, h0, lenA_rowsQ, len_rowQ, c1, c2, hrl, ruleStep, append_rowQ, plan_49_6, plan_49_9, rows_rowQ, boxes_rowQ, ↓isCell_rowQ, cells_rowQ, dedup_rowsQ, nodup_rowsQ, all_rowsQ, allT_rowsQ, small_rowsQ, bad_rowQ, ptr_rowQ, away_rowQ, mapO_rowQ, imp_rowQ, lend_rowQ, shut_rowQ, mem_rowsQ, calm_rowQ, allD_rowsQ, allE_rowsQ, frzD_rowQ, frzB_rowQ, freezeD_all, rows_argsR, boxes_argsR, ↓isCell_argsR, cells_argsR, cellsX_agg, cellsX_int, cellsX_bool, cellsX_str, cellsX_nils, cellsX_sl, cellsX_own, cellsX_ptr, cellsX_cptr, cellsX_undef, dedup_rowsD, nodup_rowsD, all_rowsD, all_rowsT, small_rowsD, bad_argsR, ptr_argsR, mapO_argsR, imp_argsR, lend_argsR4, shut_argsR, mem_rowsD, allmem_rowsD, after_D, freeze_ite, frzB_argsR, away_argsR, calm_argsR, opS_store, slidP_ptr, opS_call, slidM_io1, slidM_io2, away_F, away_ptr, away_int, away_bool, away_nils, away_undef, away_sl, away_agg, away_own, look_nil, evCall_io1, evCall_io2, evCall_io3, evCall_io4, finJ_1, finJ_2, finJ_3, finJ_4, finJ_int, finJ_bool, finJ_str, finJ_nils, finJ_agg, finJ_own, finJ_sl, finJ_tup, look_cons, reduceCtorEq, evCall_mutOwn, evCall_mutAgg, evGive, giveRows, ioBoxes, mutArgs, roArgs, handArg, mutSlots, isPtrB, pairs, pairss, back_nil, back_cons, backO, backE, setBoxes, importB, mode_mut, mode_give, mode_io, mode_ro, List.zip_cons_cons, List.zip_nil_left, List.zip_nil_right, ite_self, ite_true, ite_false, finish_give, finish_mut1, finish_io0, finish_io2, finish_io3, finish_ioc, finI, finC, finW_ptr, SO, SH, noref, isRef, isPtr, noPtr, isBad, AV.isUndef, keep_49_8, leaf_some, isNormal, ifEv_bool, gate_bool, gateP_bool, gateQ_bool, pick_bool, SN, evCutRow, Int.reduceToNat, id_eq, Int.reduceBEq, Int.reduceLE, Int.reduceLT, SS, one_ne2, num_ne2, TIS, MDS, AV.isCell, Value.cells, Nat.reduceAdd, Nat.reduceEqDiff, Nat.reduceLT, Nat.reduceLeDiff, Nat.reduceMul, Nat.reduceSub, reduceIte]
        try trace_state
    · simp -implicitDefEqProofs only [firstRegion]
      rw [keep_49_8]
      rcases rowQ_cases X.1.rules with ⟨h9, h8⟩ | ⟨h9, h8⟩
      all_goals
        simp -implicitDefEqProofs only [QS, QN, QG, QO, ZRS, ↓ZDS, ZRG, ↓ZDG, ZRO, ↓ZDO, rulesN, h8, SN, evCutRow, Int.reduceToNat, id_eq, Int.reduceBEq, Int.reduceLE, Int.reduceLT, SO, SH, evAppend, rowOf, noref, isRef, isPtr, noPtr, isBad, AV.isUndef, SS, one_ne2, num_ne2, TIS, MDS, AV.cells, AV.isCell, Value.cells, Nat.reduceAdd, Nat.reduceEqDiff, Nat.reduceLT, Nat.reduceLeDiff, Nat.reduceMul, Nat.reduceSub, reduceIte]
        try trace_state
    · rfl
  · simp -implicitDefEqProofs only [QS, QN, QG, QO, ZRS, ↓ZDS, ZRG, ↓ZDG, ZRO, ↓ZDO, anyPolicyN, Int.reduceToNat, hi1, hh1, hrl, hd, finish_cell1, finish_cell2, finCell_some, Go.Proofs.Tryz.f49, c1, c4, c8, rows_rowQ, boxes_rowQ, ↓isCell_rowQ, cells_rowQ, dedup_rowsQ, nodup_rowsQ, all_rowsQ, allT_rowsQ, small_rowsQ, bad_rowQ, ptr_rowQ, away_rowQ, mapO_rowQ, imp_rowQ, lend_rowQ, shut_rowQ, mem_rowsQ, calm_rowQ, allD_rowsQ, allE_rowsQ, frzD_rowQ, frzB_rowQ, freezeD_all, rows_argsR, boxes_argsR, ↓isCell_argsR, cells_argsR, cellsX_agg, cellsX_int, cellsX_bool, cellsX_str, cellsX_nils, cellsX_sl, cellsX_own, cellsX_ptr, cellsX_cptr, cellsX_undef, dedup_rowsD, nodup_rowsD, all_rowsD, all_rowsT, small_rowsD, bad_argsR, ptr_argsR, mapO_argsR, imp_argsR, lend_argsR4, shut_argsR, mem_rowsD, allmem_rowsD, after_D, freeze_ite, frzB_argsR, away_argsR, calm_argsR, opS_store, slidP_ptr, opS_call, slidM_io1, slidM_io2, away_F, away_ptr, away_int, away_bool, away_nils, away_undef, away_sl, away_agg, away_own, look_nil, evCall_io1, evCall_io2, evCall_io3, evCall_io4, finJ_1, finJ_2, finJ_3, finJ_4, finJ_int, finJ_bool, finJ_str, finJ_nils, finJ_agg, finJ_own, finJ_sl, finJ_tup, look_cons, reduceCtorEq, evCall_mutOwn, evCall_mutAgg, evGive, giveRows, ioBoxes, mutArgs, roArgs, handArg, mutSlots, isPtrB, pairs, pairss, back_nil, back_cons, backO, backE, setBoxes, importB, mode_mut, mode_give, mode_io, mode_ro, List.zip_cons_cons, List.zip_nil_left, List.zip_nil_right, ite_self, ite_true, ite_false, finish_give, finish_mut1, finish_io0, finish_io2, finish_io3, finish_ioc, finI, finC, finW_ptr, SO, SH, noref, isRef, isPtr, noPtr, isBad, AV.isUndef, SN, evCutRow, id_eq, Int.reduceBEq, Int.reduceLE, Int.reduceLT, SS, one_ne2, num_ne2, TIS, MDS, AV.isCell, Value.cells, Nat.reduceAdd, Nat.reduceEqDiff, Nat.reduceLT, Nat.reduceLeDiff, Nat.reduceMul, Nat.reduceSub, reduceIte]
  · simp -implicitDefEqProofs only [QS, QN, QG, QO, ZRS, ↓ZDS, ZRG, ↓ZDG, ZRO, ↓ZDO, anyPolicyN, oddRule, append_rowC, Int.reduceToNat, hi1, hh1, hrl, hd, finish_cell1, finish_cell2, finCell_some, Go.Proofs.Tryz.f49, c1, c5, c6, c7, c8, opQ_lit, plan_49_6, plan_49_9, rows_rowQ, boxes_rowQ, ↓isCell_rowQ, cells_rowQ, dedup_rowsQ, nodup_rowsQ, all_rowsQ, allT_rowsQ, small_rowsQ, bad_rowQ, ptr_rowQ, away_rowQ, mapO_rowQ, imp_rowQ, lend_rowQ, shut_rowQ, mem_rowsQ, calm_rowQ, allD_rowsQ, allE_rowsQ, frzD_rowQ, frzB_rowQ, freezeD_all, rows_argsR, boxes_argsR, ↓isCell_argsR, cells_argsR, cellsX_agg, cellsX_int, cellsX_bool, cellsX_str, cellsX_nils, cellsX_sl, cellsX_own, cellsX_ptr, cellsX_cptr, cellsX_undef, dedup_rowsD, nodup_rowsD, all_rowsD, all_rowsT, small_rowsD, bad_argsR, ptr_argsR, mapO_argsR, imp_argsR, lend_argsR4, shut_argsR, mem_rowsD, allmem_rowsD, after_D, freeze_ite, frzB_argsR, away_argsR, calm_argsR, opS_store, slidP_ptr, opS_call, slidM_io1, slidM_io2, away_F, away_ptr, away_int, away_bool, away_nils, away_undef, away_sl, away_agg, away_own, look_nil, evCall_io1, evCall_io2, evCall_io3, evCall_io4, finJ_1, finJ_2, finJ_3, finJ_4, finJ_int, finJ_bool, finJ_str, finJ_nils, finJ_agg, finJ_own, finJ_sl, finJ_tup, look_cons, reduceCtorEq, evCall_mutOwn, evCall_mutAgg, evGive, giveRows, ioBoxes, mutArgs, roArgs, handArg, mutSlots, isPtrB, pairs, pairss, back_nil, back_cons, backO, backE, setBoxes, importB, mode_mut, mode_give, mode_io, mode_ro, List.zip_cons_cons, List.zip_nil_left, List.zip_nil_right, ite_self, ite_true, ite_false, finish_give, finish_mut1, finish_io0, finish_io2, finish_io3, finish_ioc, finI, finC, finW_ptr, SO, SH, noref, isRef, isPtr, noPtr, isBad, AV.isUndef, SN, evCutRow, id_eq, Int.reduceBEq, Int.reduceLE, Int.reduceLT, SS, one_ne2, num_ne2, TIS, MDS, AV.isCell, Value.cells, Nat.reduceAdd, Nat.reduceEqDiff, Nat.reduceLT, Nat.reduceLeDiff, Nat.reduceMul, Nat.reduceSub, reduceIte]
  · rcases hm with rfl | rfl | rfl | rfl | rfl
    all_goals
      simp -implicitDefEqProofs only [QS, QN, QG, QO, ZRS, ↓ZDS, ZRG, ↓ZDG, ZRO, ↓ZDO, anyPolicyN, Int.reduceToNat, hi1, hh1, hd, finish_cell1, finish_cell2, finCell_some, Go.Proofs.Tryz.f49, c1, c8, rows_rowQ, boxes_rowQ, ↓isCell_rowQ, cells_rowQ, dedup_rowsQ, nodup_rowsQ, all_rowsQ, allT_rowsQ, small_rowsQ, bad_rowQ, ptr_rowQ, away_rowQ, mapO_rowQ, imp_rowQ, lend_rowQ, shut_rowQ, mem_rowsQ, calm_rowQ, allD_rowsQ, allE_rowsQ, frzD_rowQ, frzB_rowQ, freezeD_all, rows_argsR, boxes_argsR, ↓isCell_argsR, cells_argsR, cellsX_agg, cellsX_int, cellsX_bool, cellsX_str, cellsX_nils, cellsX_sl, cellsX_own, cellsX_ptr, cellsX_cptr, cellsX_undef, dedup_rowsD, nodup_rowsD, all_rowsD, all_rowsT, small_rowsD, bad_argsR, ptr_argsR, mapO_argsR, imp_argsR, lend_argsR4, shut_argsR, mem_rowsD, allmem_rowsD, after_D, freeze_ite, frzB_argsR, away_argsR, calm_argsR, opS_store, slidP_ptr, opS_call, slidM_io1, slidM_io2, away_F, away_ptr, away_int, away_bool, away_nils, away_undef, away_sl, away_agg, away_own, look_nil, evCall_io1, evCall_io2, evCall_io3, evCall_io4, finJ_1, finJ_2, finJ_3, finJ_4, finJ_int, finJ_bool, finJ_str, finJ_nils, finJ_agg, finJ_own, finJ_sl, finJ_tup, look_cons, reduceCtorEq, evCall_mutOwn, evCall_mutAgg, evGive, giveRows, ioBoxes, mutArgs, roArgs, handArg, mutSlots, isPtrB, pairs, pairss, back_nil, back_cons, backO, backE, setBoxes, importB, mode_mut, mode_give, mode_io, mode_ro, List.zip_cons_cons, List.zip_nil_left, List.zip_nil_right, ite_self, ite_true, ite_false, finish_give, finish_mut1, finish_io0, finish_io2, finish_io3, finish_ioc, finI, finC, finW_ptr, SO, SH, noref, isRef, isPtr, noPtr, isBad, AV.isUndef, SN, evCutRow, id_eq, Int.reduceBEq, Int.reduceLE, Int.reduceLT, SS, one_ne2, num_ne2, TIS, MDS, AV.isCell, Value.cells, Nat.reduceAdd, Nat.reduceEqDiff, Nat.reduceLT, Nat.reduceLeDiff, Nat.reduceMul, Nat.reduceSub, reduceIte]
theorem rule_w (bs : List Int) (i : Nat) (h : Int) : (ruleD bs i h).1.w ≤ 6 := by
  have h1 : ∀ i h, (condD bs 2 i h).1.w ≤ 6 := fun i h => condD_w bs 2 i h
  unfold ruleD ruleC ruleN Rule.w
  split <;> exact h1 _ _
theorem rulesN_w {bs : List Int} {b : List Rule × Nat × Int} : ∀ n, wl Rule.w (rulesN bs b n).1 ≤ wl Rule.w b.1 + 7 * n
  | 0 => by simp [rulesN]
  | n + 1 => by
    have h1 := rulesN_w (bs := bs) (b := b) n
    have h2 := rule_w bs (rulesN bs b n).2.1 (rulesN bs b n).2.2
    simp -implicitDefEqProofs only [rulesN, ruleStep, wl_append, wl]
    omega
theorem policyD_w {bs : List Int} {i : Nat} {h : Int} : wl Rule.w (policyD bs i h).1.rules ≤ 28 := by
  have := below_lt bs (n := 4) (by omega) (by omega) (belowI bs 5 i) (belowH 5 h)
  have h1 := rulesN_w (bs := bs) (b := rules0 bs i h) (1 + below1 bs 4 (belowI bs 5 i) (belowH 5 h)).toNat
  have h2 : wl Rule.w (rules0 bs i h).1 = 0 := rfl
  unfold policyD
  simp only
  omega
theorem anyCond_w (bs : List Int) (i : Nat) (h : Int) : (anyCondD bs i h).1.w ≤ 7 := by
  have h1 : (condD bs 2 i h).1.w ≤ 6 := condD_w bs 2 i h
  have h2 : ∀ i h, (leafD bs i h).1.w = 0 := fun i h => leaf_w (leafN_args _)
  unfold anyCondD
  rw [Cond.w_eq] at h1
  unfold anyCondN
  split
  · rw [Cond.w_eq]; simp only; omega
  · rw [Cond.w_eq]; simp only; omega
  · rw [Cond.w_eq]; simp only; omega
  · rw [Cond.w_eq]; simp -implicitDefEqProofs only [wl_append, wl, h2]; omega
  · rw [Cond.w_eq]; simp only; omega
theorem anyPolicy_w {bs : List Int} {i : Nat} {h : Int} : wl Rule.w (anyPolicyD bs i h).1.rules ≤ 100 := by
  have h1 := policyD_w (bs := bs) (i := i) (h := h)
  unfold anyPolicyD anyPolicyN
  split
  · simp only; omega
  · have h2 : ∀ i h, (oddRule bs i h).1.w ≤ 7 := fun i h => anyCond_w bs _ _
    simp -implicitDefEqProofs only [wl_append, wl]
    have := h2 (belowI bs 8 (policyD bs i h).2.1) (belowH 8 (policyD bs i h).2.2)
    omega
  · have h2 := rulesN_w (bs := bs) (b := ((policyD bs i h).1.rules, belowI bs 8 (policyD bs i h).2.1, belowH 8 (policyD bs i h).2.2)) (9 - (policyD bs i h).1.rules.length)
    simp only at h2 ⊢
    omega
  · simp only; omega
end Go.Proofs.YtigfcbcnfppmcaaGreat.Flat
