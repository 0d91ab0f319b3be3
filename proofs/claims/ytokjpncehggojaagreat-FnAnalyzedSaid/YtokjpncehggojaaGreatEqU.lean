/-
The draws: policies to analyze.
-/
import Derived.Test.YtokjpncehggojaaGreatEqCLC
import Derived.Test.YtokjpncehggojaaGreatEqWR
import Derived.Test.YtokjpncehggojaaGreatEqL
import Derived.Test.YtokjpncehggojaaGreatEqYM
import Derived.Test.YtokjpncehggojaaGreatFlatM4
set_option linter.unusedVariables false
set_option linter.unusedSimpArgs false
set_option maxRecDepth 10000
namespace Go.Proofs.YtokjpncehggojaaGreat.Flat
def anC (bs : List Int) : List Includes × List Fact × Request × Nat × Int := caseD bs 0 (hashOf bs)
def anP (bs : List Int) : Policy := (policyD bs (anC bs).2.2.2.1 (anC bs).2.2.2.2).1
theorem r_spec_DrawRulesThatHold {fl : Bool} (k : Nat) (hk : 290271069732864 + 40 ≤ k) (bs : List Int) (hb : bs.length ≤ 140737488355328) :
    run E noExt k 5 [.sl fl (bs.map byteA)] [] = some (.tup [.own 0 false 113 2 ((anC bs).1.map (Includes.enc true)), .own 1 false 92 6 ((anC bs).2.1.map (Fact.enc true)), .agg [.int .i64 (anP bs).version, .own 2 false 42 7 ((anP bs).rules.map (Rule.enc true))], (anC bs).2.2.1.enc true], []) := by
  have c1 := r_spec_l1New (fl := fl) (k - 1) (by omega) bs hb
  have c2 := fun i h => r_spec_l17Case (fl := fl) (k - 1) (by omega) bs hb i h
  have c5 := fun i h => r_spec_l19Policy (fl := fl) (k - 1) (by omega) bs hb i h
  obtain ⟨k, rfl⟩ : ∃ j, k = j + 1 := ⟨k - 1, by omega⟩
  rw [run_succ rfl rfl, body_eq (nt := 23) (fn := Go.Proofs.Tryz.f5) (by kernel_rfl) rfl rfl rfl rfl rfl rfl rfl rfl]
  simp -implicitDefEqProofs only [Nat.add_sub_cancel, enc_Request] at c1 c2 c5
  have c4 := c2 0 (hashOf bs)
  rw [show ((0 : Nat) : Int) = 0 from rfl] at c4
  have hown : ∀ id i h, rowQ id (policyD bs i h).1.rules = .own id false 42 7 ((policyD bs i h).1.rules.map (Rule.enc true)) := fun id i h => rowQ_own policyD_ne
  simp -implicitDefEqProofs only [hown] at c5
  unfold anP anC
  generalize caseD bs 0 (hashOf bs) = C at *
  have d5 := c5 C.2.2.2.1 C.2.2.2.2
  generalize policyD bs C.2.2.2.1 C.2.2.2.2 = P at *
  simp -implicitDefEqProofs only [W3, ↓D3, ↓DA, ↓DP, ↓DC, enc_Request, opQ_assign, finish_four0, resultsOf, resultOf, Go.Proofs.Tryz.f5, evCall_give1, c1, c4, d5, scals_Fact, tscals_Includes, opS_store, slidP_ptr, opS_call, slidM_io1, slidM_io2, away_ptr, away_agg, away_int, away_own, away_F, plan_5_3, look_nil, evCall_io1, evCall_io2, evCall_io3, evCall_io4, finJ_1, finJ_2, finJ_3, finJ_4, finJ_int, finJ_bool, finJ_str, finJ_nils, finJ_agg, finJ_own, finJ_sl, finJ_tup, look_cons, reduceCtorEq, evCall_mutOwn, evCall_mutAgg, evGive, giveRows, ioBoxes, mutArgs, roArgs, handArg, mutSlots, isPtrB, pairs, pairss, back_nil, back_cons, backO, backE, setBoxes, importB, mode_mut, mode_give, mode_io, mode_ro, List.zip_cons_cons, List.zip_nil_left, List.zip_nil_right, ite_self, ite_true, ite_false, finish_give, finish_mut1, finish_io0, finish_io2, finish_io3, finish_ioc, finI, finC, finW_ptr, SH, Int.reduceToNat, id_eq, Int.reduceBEq, Int.reduceLE, Int.reduceLT, Nat.reduceAdd, Nat.reduceEqDiff, Nat.reduceLT, Nat.reduceLeDiff, Nat.reduceMul, Nat.reduceSub, reduceIte]
  try trace_state
def idleRule (bs : List Int) (i : Nat) (h : Int) : Draw Rule :=
  let R := ruleD bs i h; let C := condD bs 1 R.2.1 R.2.2
  (⟨R.1.effect, R.1.action, R.1.object, C.1⟩, C.2.1, C.2.2)
def idleStep (bs : List Int) (b : List Rule × Nat × Int) : List Rule × Nat × Int := (b.1 ++ [(idleRule bs b.2.1 b.2.2).1], (idleRule bs b.2.1 b.2.2).2.1, (idleRule bs b.2.1 b.2.2).2.2)
def idleN (bs : List Int) (b : List Rule × Nat × Int) : Nat → List Rule × Nat × Int
  | 0 => b
  | n + 1 => idleStep bs (idleN bs b n)
theorem idleN_len {bs : List Int} {b : List Rule × Nat × Int} : ∀ n, (idleN bs b n).1.length = b.1.length + n
  | 0 => rfl
  | n + 1 => by simp -implicitDefEqProofs only [idleN, idleStep, List.length_append, idleN_len n, List.length_cons, List.length_nil]; omega
def idle0 (bs : List Int) : List Rule × Nat × Int := ([], belowI bs 3 0, belowH 3 (hashOf bs))
def idleB (bs : List Int) : List Rule × Nat × Int := idleN bs (idle0 bs) (1 + below1 bs 3 0 (hashOf bs)).toNat
def idleR (b : List Rule) : Bool → List Rule
  | true => b ++ [b.headD default]
  | false => b
def idleL (bs : List Int) : List Rule := idleR (idleB bs).1 (below1 bs 2 (idleB bs).2.1 (idleB bs).2.2 == 0)
def idleI (bs : List Int) : Int := below1 bs ((idleL bs).length + 1 : Nat) (belowI bs 2 (idleB bs).2.1) (belowH 2 (idleB bs).2.2)
theorem idleB_len (bs : List Int) : 1 ≤ (idleB bs).1.length ∧ (idleB bs).1.length ≤ 3 := by
  have := below_lt bs (n := 3) (by omega) (by omega) 0 (hashOf bs)
  unfold idleB
  rw [idleN_len]
  simp -implicitDefEqProofs only [idle0, List.length_nil]
  omega
theorem idleRule_w (bs : List Int) (i : Nat) (h : Int) : (idleRule bs i h).1.w ≤ 2 := by
  have := condD_w bs 1 (ruleD bs i h).2.1 (ruleD bs i h).2.2
  exact Nat.le_trans this (by decide)
theorem idleN_w {bs : List Int} {b : List Rule × Nat × Int} : ∀ n, wl Rule.w (idleN bs b n).1 ≤ wl Rule.w b.1 + 3 * n
  | 0 => by simp [idleN]
  | n + 1 => by
    have h1 := idleN_w (bs := bs) (b := b) n
    have h2 := idleRule_w bs (idleN bs b n).2.1 (idleN bs b n).2.2
    simp -implicitDefEqProofs only [idleN, idleStep, wl_append, wl]
    omega
theorem idleB_w (bs : List Int) : wl Rule.w (idleB bs).1 ≤ 9 := by
  have := below_lt bs (n := 3) (by omega) (by omega) 0 (hashOf bs)
  have h1 := idleN_w (bs := bs) (b := idle0 bs) (1 + below1 bs 3 0 (hashOf bs)).toNat
  have h2 : wl Rule.w (idle0 bs).1 = 0 := rfl
  unfold idleB
  omega
theorem idle_facts (bs : List Int) : ∃ n : Nat, idleI bs = (n : Int) ∧ wl Rule.w (idleL bs) ≤ 1000 := by
  have h1 := idleB_len bs
  have h2 := idleB_w bs
  have hlen : (idleL bs).length ≤ 4 := by
    unfold idleL idleR
    split
    · rw [List.length_append]; simp; omega
    · omega
  have h3 := below_lt bs (n := (((idleL bs).length + 1 : Nat) : Int)) (by omega) (by omega) (belowI bs 2 (idleB bs).2.1) (belowH 2 (idleB bs).2.2)
  refine ⟨(idleI bs).toNat, by unfold idleI; omega, ?_⟩
  unfold idleL idleR
  split
  · rw [wl_append]
    obtain ⟨r, t, e⟩ : ∃ r t, (idleB bs).1 = r :: t := by cases e : (idleB bs).1 with | nil => rw [e] at h1; simp at h1 | cons r t => exact ⟨r, t, rfl⟩
    rw [e] at h2 ⊢
    simp -implicitDefEqProofs only [wl, List.headD_cons] at h2 ⊢
    omega
  · omega
set_option maxHeartbeats 2000000 in
theorem r_spec_DrawIsIdle {fl : Bool} (k : Nat) (hk : 290271069732864 + 40 ≤ k) (bs : List Int) (hb : bs.length ≤ 140737488355328) :
    run E noExt k 10 [.sl fl (bs.map byteA)] [] = some (.tup [.agg [.int .i64 1, .own 0 false 42 7 ((idleL bs).map (Rule.enc true))], .int .i64 (idleI bs)], []) := by
  have c1 := r_spec_l1New (fl := fl) (k - 1) (by omega) bs hb
  have c2 := fun n i h => r_spec_l1Below (fl := fl) (k - 1) (by omega) bs hb n i h
  have c3 := fun n i h => r_spec_l1Once (fl := fl) (k - 1) (by omega) bs hb n i h
  have c4 := fun i h => r_spec_l19Rule (fl := fl) (k - 1) (by omega) bs hb i h
  have c5 := fun i h => r_spec_l15CondI (fl := fl) (k - 1) (by omega) bs hb i h
  have hlt := below_lt bs (n := 3) (by omega) (by omega) 0 (hashOf bs)
  have hln := idleB_len bs
  have hwb := idleB_w bs
  have c7 := fun (x : Cond) (hx : x.w ≤ 1000) => r_spec_l15Copy (fl := true) (k - 1) (by omega) x (by omega)
  unfold Cond.copyAV at c7
  obtain ⟨k, rfl⟩ : ∃ j, k = j + 1 := ⟨k - 1, by omega⟩
  rw [run_succ rfl rfl, body_eq (nt := 53) (fn := Go.Proofs.Tryz.f10) (by kernel_rfl) rfl rfl rfl rfl rfl rfl rfl rfl]
  simp -implicitDefEqProofs only [Nat.add_sub_cancel, Rule.dAV, dAV_D, enc_Cond] at c1 c2 c3 c4 c5 c7
  have c6 := c2 3 0 (hashOf bs)
  rw [show ((0 : Nat) : Int) = 0 from rfl] at c6
  unfold idleI idleL
  unfold idleB at *
  generalize hd : below1 bs 3 0 (hashOf bs) = d at *
  obtain ⟨m, hm⟩ : ∃ m : Nat, 1 + d = (m : Int) := ⟨(1 + d).toNat, by omega⟩
  have hw0 : IntKind.i64.wrap (1 + d) = (m : Int) := by rw [IntWalk.i64_in _ (by omega)]; exact hm
  simp -implicitDefEqProofs only [hm, Int.toNat_natCast] at hln hwb ⊢
  simp -implicitDefEqProofs only [W3, ↓D3, ↓DA, rowQ_nil, Go.Proofs.Tryz.f10, evCall_give1, c1, c6, hd, hw0, rows_rowQ, boxes_rowQ, ↓isCell_rowQ, cells_rowQ, dedup_rowsQ, nodup_rowsQ, all_rowsQ, allT_rowsQ, small_rowsQ, bad_rowQ, ptr_rowQ, away_rowQ, mapO_rowQ, imp_rowQ, lend_rowQ, shut_rowQ, mem_rowsQ, calm_rowQ, allD_rowsQ, allE_rowsQ, frzD_rowQ, frzB_rowQ, freezeD_all, rows_argsR, boxes_argsR, ↓isCell_argsR, cells_argsR, cellsX_agg, cellsX_int, cellsX_bool, cellsX_str, cellsX_nils, cellsX_sl, cellsX_own, cellsX_ptr, cellsX_cptr, cellsX_undef, dedup_rowsD, nodup_rowsD, all_rowsD, all_rowsT, small_rowsD, bad_argsR, ptr_argsR, mapO_argsR, imp_argsR, lend_argsR4, shut_argsR, mem_rowsD, allmem_rowsD, after_D, freeze_ite, frzB_argsR, away_argsR, calm_argsR, opS_store, slidP_ptr, opS_call, slidM_io1, slidM_io2, away_F, away_ptr, away_int, away_bool, away_nils, away_undef, away_sl, away_agg, away_own, look_nil, evCall_io1, evCall_io2, evCall_io3, evCall_io4, finJ_1, finJ_2, finJ_3, finJ_4, finJ_int, finJ_bool, finJ_str, finJ_nils, finJ_agg, finJ_own, finJ_sl, finJ_tup, look_cons, reduceCtorEq, evCall_mutOwn, evCall_mutAgg, evGive, giveRows, ioBoxes, mutArgs, roArgs, handArg, mutSlots, isPtrB, pairs, pairss, back_nil, back_cons, backO, backE, setBoxes, importB, mode_mut, mode_give, mode_io, mode_ro, List.zip_cons_cons, List.zip_nil_left, List.zip_nil_right, ite_self, ite_true, ite_false, finish_give, finish_mut1, finish_io0, finish_io2, finish_io3, finish_ioc, finI, finC, finW_ptr, SH, noref, isRef, isPtr, noPtr, isBad, AV.isUndef, Int.reduceToNat, id_eq, Int.reduceBEq, Int.reduceLE, Int.reduceLT, AV.cells, AV.isCell, Value.cells, Nat.reduceAdd, Nat.reduceEqDiff, Nat.reduceLT, Nat.reduceLeDiff, Nat.reduceMul, Nat.reduceSub, reduceIte]
  rw [ev_loop]
  refine Eq.trans (loop_list (Q := fun (_ : Unit) x => thenEnd E.P _ _ 0 (thenEv E _ _ _ _ _ (outOf 0 x)) = some (.tup [.agg [.int .i64 1, .own 0 false 42 7 ((idleR (idleN bs (idle0 bs) m).1 (below1 bs 2 (idleN bs (idle0 bs) m).2.1 (idleN bs (idle0 bs) m).2.2 == 0)).map (Rule.enc true))], .int .i64 (below1 bs ((idleR (idleN bs (idle0 bs) m).1 (below1 bs 2 (idleN bs (idle0 bs) m).2.1 (idleN bs (idle0 bs) m).2.2 == 0)).length + 1 : Nat) (belowI bs 2 (idleN bs (idle0 bs) m).2.1) (belowH 2 (idleN bs (idle0 bs) m).2.2))], [])) (List.range m) (fun _ _ _ => .inr ()) id
    (fun j _ => { sl := [(2, .ptr 0 0), (4, .ptr 1 0), (5, .ptr 2 0), (6, .int .i64 (((m - j : Nat) : Int)))], bx := [(0, [.int .i64 0, .nils]), (1, [.sl fl (bs.map byteA), .int .i64 ((idleN bs (idle0 bs) j).2.1 : Nat), .int .i64 (idleN bs (idle0 bs) j).2.2]), (2, [.int .i64 1, rowQ 0 (idleN bs (idle0 bs) j).1])], nx := (rowsQ 0 (idleN bs (idle0 bs) j).1).length + 3, nt := 53 }) (fun _ _ => True) () ?_ ?_ (by simp; omega) trivial ?_) ?_
  · intro _ _
    rw [List.length_range, Nat.sub_self]
    have h0 : ¬ (0 : Int) < ((0 : Nat) : Int) := by omega
    generalize idleN bs (idle0 bs) m = b at *
    obtain ⟨ls, bi, bh⟩ := b
    simp only at hln ⊢
    obtain ⟨r0, rt, rfl⟩ : ∃ r t, ls = r :: t := by cases ls with | nil => simp at hln | cons r t => exact ⟨r, t, rfl⟩
    have hrq : ∀ id, rowQ id (r0 :: rt) = .own id false 42 7 ((r0 :: rt).map (Rule.enc true)) := fun id => rowQ_own (by simp)
    have hrs : rowsQ 0 (r0 :: rt) = [0] := rowsQ_own (by simp)
    simp -implicitDefEqProofs only [List.length_cons] at hln
    cases e : below1 bs 2 bi bh == 0
    · have hw2 : IntKind.i64.wrap (((rt.length + 1 : Nat) : Int) + 1) = ((rt.length + 1 + 1 : Nat) : Int) := by rw [IntWalk.i64_in _ (by omega)]; omega
      simp -implicitDefEqProofs only [idleR, List.length_cons]
      simp -implicitDefEqProofs only [W3, ↓D3, ↓DA, ↓DP, ↓DC, hrq, hrs, h0, c2, c3, e, hw2, finish_many0, resultsOf, resultOf, opS_call, slidM_io1, slidM_io2, away_ptr, away_agg, away_int, away_own, away_F, leaf_some, isNormal, ifEv_bool, plan_10_13, look_nil, evCall_io1, evCall_io2, evCall_io3, evCall_io4, finJ_1, finJ_2, finJ_3, finJ_4, finJ_int, finJ_bool, finJ_str, finJ_nils, finJ_agg, finJ_own, finJ_sl, finJ_tup, look_cons, reduceCtorEq, evCall_mutOwn, evCall_mutAgg, evGive, giveRows, ioBoxes, mutArgs, roArgs, handArg, mutSlots, isPtrB, pairs, pairss, back_nil, back_cons, backO, backE, setBoxes, importB, mode_mut, mode_give, mode_io, mode_ro, List.zip_cons_cons, List.zip_nil_left, List.zip_nil_right, ite_self, ite_true, ite_false, finish_give, finish_mut1, finish_io0, finish_io2, finish_io3, finish_ioc, finI, finC, finW_ptr, SH, Int.reduceToNat, id_eq, Int.reduceBEq, Int.reduceLE, Int.reduceLT, Nat.reduceAdd, Nat.reduceEqDiff, Nat.reduceLT, Nat.reduceLeDiff, Nat.reduceMul, Nat.reduceSub, reduceIte]
      try trace_state
    · have hw2 : IntKind.i64.wrap (((rt.length + 1 + 1 : Nat) : Int) + 1) = ((rt.length + 1 + 1 + 1 : Nat) : Int) := by rw [IntWalk.i64_in _ (by omega)]; omega
      simp -implicitDefEqProofs only [List.length_cons, wl] at hwb
      have hrw : r0.cond.w ≤ 1000 := by have : r0.cond.w = Rule.w r0 := rfl; omega
      have d7 := c7 r0.cond hrw
      have hsc := tscals_N r0.cond.args
      have hp9 : (0 : Int) < ((rt.length + 1 : Nat) : Int) := by omega
      have hm1 : (rt.length + 1 + 1) * 72 ≤ 140737488355328 := by omega
      have hm2 : rt.length + 1 + 1 ≤ 9223372036854775807 := by omega
      have hm9 : rt.length + 1 ≤ 9223372036854775806 := by omega
      have hpl : plains [AV.agg [.int .i64 r0.effect, .int .i64 r0.action, .int .i64 r0.object, .int .i64 r0.cond.op, .int .i64 r0.cond.a, .int .i64 r0.cond.b, .sl true (r0.cond.args.map (Cond.enc true))]] = true := rfl
      simp -implicitDefEqProofs only [idleR, List.length_cons, List.headD_cons, List.length_append, List.length_nil, Nat.zero_add]
      rcases Classical.em (r0.cond.args.map Cond.tencN = []) with h2 | h2
      · have h3 : r0.cond.args.map (Cond.enc true) = [] := by cases hx : r0.cond.args with | nil => rfl | cons c r => rw [hx] at h2; simp at h2
        rw [h2] at d7
        rw [h3] at hpl d7
        simp -implicitDefEqProofs only [rowN_nil] at d7
        simp -implicitDefEqProofs only [W3, ↓D3, ↓DA, ↓DP, ↓DC, enc_Rule, h3, hrq, hrs, h0, c2, c3, d7, e, hw2, hp9, hpl, hm1, hm2, hm9, finish_many0, resultsOf, resultOf, opS_call, slidM_io1, slidM_io2, away_ptr, away_agg, away_int, away_own, away_F, List.map_append, List.length_append, leaf_some, isNormal, ifEv_bool, plan_10_13, look_nil, evCall_io1, evCall_io2, evCall_io3, evCall_io4, finJ_1, finJ_2, finJ_3, finJ_4, finJ_int, finJ_bool, finJ_str, finJ_nils, finJ_agg, finJ_own, finJ_sl, finJ_tup, look_cons, reduceCtorEq, evCall_mutOwn, evCall_mutAgg, evGive, giveRows, ioBoxes, mutArgs, roArgs, handArg, mutSlots, isPtrB, pairs, pairss, back_nil, back_cons, backO, backE, setBoxes, importB, mode_mut, mode_give, mode_io, mode_ro, List.zip_cons_cons, List.zip_nil_left, List.zip_nil_right, ite_self, ite_true, ite_false, finish_give, finish_mut1, finish_io0, finish_io2, finish_io3, finish_ioc, finI, finC, finW_ptr, SH, Int.reduceToNat, id_eq, Int.reduceBEq, Int.reduceLE, Int.reduceLT, Nat.reduceAdd, Nat.reduceEqDiff, Nat.reduceLT, Nat.reduceLeDiff, Nat.reduceMul, Nat.reduceSub, reduceIte]
        try trace_state
      · simp -implicitDefEqProofs only [rowN_ne h2] at d7
        simp -implicitDefEqProofs only [W3, ↓D3, ↓DA, ↓DP, ↓DC, enc_Rule, hrq, hrs, h0, c2, c3, d7, e, hw2, hp9, hpl, hm1, hm2, hm9, hsc, tshuts_N, finish_many0, resultsOf, resultOf, opS_call, slidM_io1, slidM_io2, away_ptr, away_agg, away_int, away_own, away_F, List.map_append, List.length_append, leaf_some, isNormal, ifEv_bool, plan_10_13, look_nil, evCall_io1, evCall_io2, evCall_io3, evCall_io4, finJ_1, finJ_2, finJ_3, finJ_4, finJ_int, finJ_bool, finJ_str, finJ_nils, finJ_agg, finJ_own, finJ_sl, finJ_tup, look_cons, reduceCtorEq, evCall_mutOwn, evCall_mutAgg, evGive, giveRows, ioBoxes, mutArgs, roArgs, handArg, mutSlots, isPtrB, pairs, pairss, back_nil, back_cons, backO, backE, setBoxes, importB, mode_mut, mode_give, mode_io, mode_ro, List.zip_cons_cons, List.zip_nil_left, List.zip_nil_right, ite_self, ite_true, ite_false, finish_give, finish_mut1, finish_io0, finish_io2, finish_io3, finish_ioc, finI, finC, finW_ptr, SH, Int.reduceToNat, id_eq, Int.reduceBEq, Int.reduceLE, Int.reduceLT, Nat.reduceAdd, Nat.reduceEqDiff, Nat.reduceLT, Nat.reduceLeDiff, Nat.reduceMul, Nat.reduceSub, reduceIte]
        try trace_state
  · intro pre z r _ hs' _
    have hpl : pre.length < m := by have := congrArg List.length hs'; simp at this; omega
    clear hs'
    have hp0 : (0 : Int) < ((m - pre.length : Nat) : Int) := by omega
    have hw1 : IntKind.i64.wrap (((m - pre.length : Nat) : Int) - 1) = ((m - (pre.length + 1) : Nat) : Int) := by rw [IntWalk.i64_in _ (by omega)]; omega
    simp -implicitDefEqProofs only [idleN]
    have hrl : (idleN bs (idle0 bs) pre.length).1.length ≤ 1000000 := by rw [idleN_len]; simp -implicitDefEqProofs only [idle0, List.length_nil]; omega
    generalize idleN bs (idle0 bs) pre.length = b at *
    rcases rowsQ_len b.1 with hL | hL
    all_goals
      simp -implicitDefEqProofs only [W3, ↓D3, QX, hL, lenA_rowsQ, hp0, hw1, c1, c2, c4, c5, hrl, idleStep, idleRule, append_rowC, plan_10_13, rows_rowQ, boxes_rowQ, ↓isCell_rowQ, cells_rowQ, dedup_rowsQ, nodup_rowsQ, all_rowsQ, allT_rowsQ, small_rowsQ, bad_rowQ, ptr_rowQ, away_rowQ, mapO_rowQ, imp_rowQ, lend_rowQ, shut_rowQ, mem_rowsQ, calm_rowQ, allD_rowsQ, allE_rowsQ, frzD_rowQ, frzB_rowQ, freezeD_all, rows_argsR, boxes_argsR, ↓isCell_argsR, cells_argsR, cellsX_agg, cellsX_int, cellsX_bool, cellsX_str, cellsX_nils, cellsX_sl, cellsX_own, cellsX_ptr, cellsX_cptr, cellsX_undef, dedup_rowsD, nodup_rowsD, all_rowsD, all_rowsT, small_rowsD, bad_argsR, ptr_argsR, mapO_argsR, imp_argsR, lend_argsR4, shut_argsR, mem_rowsD, allmem_rowsD, after_D, freeze_ite, frzB_argsR, away_argsR, calm_argsR, opS_store, slidP_ptr, opS_call, slidM_io1, slidM_io2, away_F, away_ptr, away_int, away_bool, away_nils, away_undef, away_sl, away_agg, away_own, look_nil, evCall_io1, evCall_io2, evCall_io3, evCall_io4, finJ_1, finJ_2, finJ_3, finJ_4, finJ_int, finJ_bool, finJ_str, finJ_nils, finJ_agg, finJ_own, finJ_sl, finJ_tup, look_cons, reduceCtorEq, evCall_mutOwn, evCall_mutAgg, evGive, giveRows, ioBoxes, mutArgs, roArgs, handArg, mutSlots, isPtrB, pairs, pairss, back_nil, back_cons, backO, backE, setBoxes, importB, mode_mut, mode_give, mode_io, mode_ro, List.zip_cons_cons, List.zip_nil_left, List.zip_nil_right, ite_self, ite_true, ite_false, finish_give, finish_mut1, finish_io0, finish_io2, finish_io3, finish_ioc, finI, finC, finW_ptr, SH, noref, isRef, isPtr, noPtr, isBad, AV.isUndef, keep_10_4, leaf_some, isNormal, Int.reduceToNat, id_eq, Int.reduceBEq, Int.reduceLE, Int.reduceLT, AV.isCell, Value.cells, Nat.reduceAdd, Nat.reduceEqDiff, Nat.reduceLT, Nat.reduceLeDiff, Nat.reduceMul, Nat.reduceSub, reduceIte]
      try trace_state
  · simp -implicitDefEqProofs only [firstRegion]
    rw [keep_10_4]
    simp -implicitDefEqProofs only [W3, ↓D3, ↓DA, ↓DP, ↓DC, idleN, idle0, rowQ_nil, rowsQ_nil, Nat.sub_zero, Int.reduceToNat, id_eq, Int.reduceBEq, Int.reduceLE, Int.reduceLT, SH, Nat.reduceAdd, Nat.reduceEqDiff, Nat.reduceLT, Nat.reduceLeDiff, Nat.reduceMul, Nat.reduceSub, reduceIte]
    try trace_state
  · rfl
theorem r_spec_WithoutRuleX (k : Nat) (hk : 290271069732864 + 8 ≤ k) (p : Policy) (hp : p.w ≤ 1099511627776) (hne : p.rules ≠ []) (i : Nat) (hi : ¬ i < p.rules.length) :
    run E noExt k 39 [p.enc true, .int .i64 (i : Nat)] [] = some (.agg [.int .i64 p.version, .own 0 false 42 7 (p.rules.map Rule.tencN)], []) := by
  have hw : wl Rule.w p.rules ≤ 1099511627776 := hp
  have hs1 := wl_length Rule.w p.rules
  have hs : p.rules.length ≤ 140737488355328 := by omega
  have c1 := r_spec_l19Copy (fl := true) (k - 1) (by omega) p hp
  have c2 := r_spec_l1In (k - 1) (by omega) (i : Nat) 0 ((p.rules.length : Int) - 1)
  have hin : inR (i : Nat) 0 ((p.rules.length : Int) - 1) = false := by unfold inR; simp; omega
  rw [hin] at c2
  have hne : p.rules.map Rule.tencN ≠ [] := fun e => hne (List.map_eq_nil_iff.1 e)
  have hwr : IntKind.i64.wrap ((p.rules.length : Int) - 1) = (p.rules.length : Int) - 1 := IntWalk.i64_in _ (by omega)
  rw [rowR_ne hne] at c1
  have hsc := tscals_NR p.rules
  obtain ⟨k, rfl⟩ : ∃ j, k = j + 1 := ⟨k - 1, by omega⟩
  rw [run_succ rfl rfl, body_eq (nt := 28) (fn := Go.Proofs.Tryz.f39) (by kernel_rfl) rfl rfl rfl rfl rfl rfl rfl rfl]
  simp -implicitDefEqProofs only [Nat.add_sub_cancel, enc_Policy] at c1 c2
  simp -implicitDefEqProofs only [W3, ↓D3, ↓DA, ↓DP, ↓DC, Go.Proofs.Tryz.f39, enc_Policy, c1, c2, hsc, hwr, SH, Int.reduceToNat, id_eq, Int.reduceBEq, Int.reduceLE, Int.reduceLT, Nat.reduceAdd, Nat.reduceEqDiff, Nat.reduceLT, Nat.reduceLeDiff, Nat.reduceMul, Nat.reduceSub, reduceIte]
  try trace_state
theorem after_refG {nid : Nat} {dst : Option Nat} {st : St} {args : List AV} {ret : AV} (hs : small ret = true) (hp : args.any (·.any isPtr) = false) (hn : noref ret = false) : afterRo nid dst st args (some (ret, [])) = (st.mapO (frzO (args.flatMap AV.rows)) .ptr (frzE (args.flatMap AV.rows))).put dst (import_ nid ret) := by
  rw [← freeze_all]
  simp -implicitDefEqProofs only [afterRo, hs, if_true, hn, hp, Bool.false_eq_true, if_false]
set_option maxHeartbeats 4000000 in
theorem r_spec_DrawIsSafer {fl : Bool} (k : Nat) (hk : 290271069732864 + 40 ≤ k) (bs : List Int) (hb : bs.length ≤ 140737488355328) :
    ∃ (A B : Policy) (ao oo : Int) (xs : List AV) (fz : Bool), AV.shuts xs = B.rules.map (Rule.enc true) ∧ A.w ≤ 1000 ∧ B.w ≤ 2000 ∧
    run E noExt k 15 [.sl fl (bs.map byteA)] [] = some (.tup [.agg [.int .i64 A.version, .own 0 fz 42 7 (A.rules.map (Rule.enc true))], .agg [.int .i64 B.version, .own 1 false 42 7 xs], .int .i64 ao, .int .i64 oo], []) := by
  have c1 := r_spec_l1New (fl := fl) (k - 1) (by omega) bs hb
  have c2 := fun n i h => r_spec_l1Below (fl := fl) (k - 1) (by omega) bs hb n i h
  have c3 := fun n i h => r_spec_l1Once (fl := fl) (k - 1) (by omega) bs hb n i h
  have c4 := fun i h => r_spec_l19Rule (fl := fl) (k - 1) (by omega) bs hb i h
  have c5 := r_spec_l19Policy (fl := fl) (k - 1) (by omega) bs hb 0 (hashOf bs)
  have c6 := fun n i h => r_spec_l5Name (fl := fl) (k - 1) (by omega) bs hb n i h
  have hPw : (policyD bs 0 (hashOf bs)).1.w ≤ 1000 := Nat.le_trans policyD_w (by decide)
  have hPl : (policyD bs 0 (hashOf bs)).1.rules.length ≤ 4 := policyD_len
  have hPn : (policyD bs 0 (hashOf bs)).1.rules ≠ [] := policyD_ne
  rw [rowQ_own hPn] at c5
  have c7 := r_spec_l19Copy (fl := true) (k - 1) (by omega) (policyD bs 0 (hashOf bs)).1 (by omega)
  have c8 := fun n hn => r_spec_WithoutRule (k - 1) (by omega) (policyD bs 0 (hashOf bs)).1 (by omega) n hn
  have c9 := fun n hn => r_spec_WithoutRuleX (k - 1) (by omega) (policyD bs 0 (hashOf bs)).1 (by omega) hPn n hn
  generalize policyD bs 0 (hashOf bs) = P at *
  obtain ⟨A, ai, ah⟩ := P
  simp only at *
  have hAn : A.rules.map Rule.tencN ≠ [] := fun e => hPn (List.map_eq_nil_iff.1 e)
  rw [rowR_ne hAn] at c7
  have hsc := tscals_NR A.rules
  have hrw := rule_w bs (belowI bs 2 ai) (belowH 2 ah)
  have hAw : wl Rule.w A.rules ≤ 1000 := hPw
  cases e : below1 bs 2 ai ah == 0
  · -- without a rule
    have hlt := below_lt bs (n := 3) (by omega) (by omega) (belowI bs 2 ai) (belowH 2 ah)
    obtain ⟨n, hn⟩ : ∃ n : Nat, below1 bs 3 (belowI bs 2 ai) (belowH 2 ah) = (n : Int) := ⟨(below1 bs 3 (belowI bs 2 ai) (belowH 2 ah)).toNat, by omega⟩
    by_cases hi : n < A.rules.length
    · have d8 := c8 n hi
      have hsr := dropR_w A.rules n
      cases hsq : AV.scals ((dropR A.rules n).map (Rule.enc true))
      all_goals
        refine ⟨A, ⟨A.version, dropR A.rules n⟩, below1 bs 2 (belowI bs 3 (belowI bs 2 ai)) (belowH 3 (belowH 2 ah)), (nameD bs 4 (belowI bs 2 (belowI bs 3 (belowI bs 2 ai))) (belowH 2 (belowH 3 (belowH 2 ah)))).1, (dropR A.rules n).map (Rule.enc true), !(AV.scals ((dropR A.rules n).map (Rule.enc true))), shuts_Rule, hPw, Nat.le_trans (Nat.le_trans hsr hAw) (by omega), ?_⟩
        obtain ⟨k, rfl⟩ : ∃ j, k = j + 1 := ⟨k - 1, by omega⟩
        rw [run_succ rfl rfl, body_eq (nt := 38) (fn := Go.Proofs.Tryz.f15) (by kernel_rfl) rfl rfl rfl rfl rfl rfl rfl rfl]
        simp -implicitDefEqProofs only [Nat.add_sub_cancel, enc_Policy, Rule.dAV] at c1 c2 c3 c4 c5 c6 c7 d8
        rw [show ((0 : Nat) : Int) = 0 from rfl] at c5
        simp -implicitDefEqProofs only [W3, ↓D3, ↓DA, ↓DP, ↓DC, enc_Policy, evCall_give1, Go.Proofs.Tryz.f15, c1, c2, c3, c5, c6, c7, d8, e, hn, hsc, hsq, after_refG, tshuts_NR, shuts_Rule, opQ_assign, finish_many0, resultsOf, resultOf, opS_store, slidP_ptr, opS_call, slidM_io1, slidM_io2, away_ptr, away_agg, away_int, away_own, away_F, plan_15_7, plan_15_9, look_nil, evCall_io1, evCall_io2, evCall_io3, evCall_io4, finJ_1, finJ_2, finJ_3, finJ_4, finJ_int, finJ_bool, finJ_str, finJ_nils, finJ_agg, finJ_own, finJ_sl, finJ_tup, look_cons, reduceCtorEq, evCall_mutOwn, evCall_mutAgg, evGive, giveRows, ioBoxes, mutArgs, roArgs, handArg, mutSlots, isPtrB, pairs, pairss, back_nil, back_cons, backO, backE, setBoxes, importB, mode_mut, mode_give, mode_io, mode_ro, List.zip_cons_cons, List.zip_nil_left, List.zip_nil_right, ite_self, ite_true, ite_false, finish_give, finish_mut1, finish_io0, finish_io2, finish_io3, finish_ioc, finI, finC, finW_ptr, SH, Int.reduceToNat, id_eq, Int.reduceBEq, Int.reduceLE, Int.reduceLT, Nat.reduceAdd, Nat.reduceEqDiff, Nat.reduceLT, Nat.reduceLeDiff, Nat.reduceMul, Nat.reduceSub, reduceIte]
        try trace_state
    · have d9 := c9 n hi
      refine ⟨A, A, below1 bs 2 (belowI bs 3 (belowI bs 2 ai)) (belowH 3 (belowH 2 ah)), (nameD bs 4 (belowI bs 2 (belowI bs 3 (belowI bs 2 ai))) (belowH 2 (belowH 3 (belowH 2 ah)))).1, A.rules.map Rule.tencN, false, tshuts_NR, hPw, Nat.le_trans hPw (by omega), ?_⟩
      obtain ⟨k, rfl⟩ : ∃ j, k = j + 1 := ⟨k - 1, by omega⟩
      rw [run_succ rfl rfl, body_eq (nt := 38) (fn := Go.Proofs.Tryz.f15) (by kernel_rfl) rfl rfl rfl rfl rfl rfl rfl rfl]
      simp -implicitDefEqProofs only [Nat.add_sub_cancel, enc_Policy, Rule.dAV] at c1 c2 c3 c4 c5 c6 c7 d9
      rw [show ((0 : Nat) : Int) = 0 from rfl] at c5
      simp -implicitDefEqProofs only [W3, ↓D3, ↓DA, ↓DP, ↓DC, enc_Policy, evCall_give1, Go.Proofs.Tryz.f15, c1, c2, c3, c5, c6, c7, d9, e, hn, hsc, tshuts_NR, shuts_Rule, opQ_assign, finish_many0, resultsOf, resultOf, opS_store, slidP_ptr, opS_call, slidM_io1, slidM_io2, away_ptr, away_agg, away_int, away_own, away_F, plan_15_7, plan_15_9, look_nil, evCall_io1, evCall_io2, evCall_io3, evCall_io4, finJ_1, finJ_2, finJ_3, finJ_4, finJ_int, finJ_bool, finJ_str, finJ_nils, finJ_agg, finJ_own, finJ_sl, finJ_tup, look_cons, reduceCtorEq, evCall_mutOwn, evCall_mutAgg, evGive, giveRows, ioBoxes, mutArgs, roArgs, handArg, mutSlots, isPtrB, pairs, pairss, back_nil, back_cons, backO, backE, setBoxes, importB, mode_mut, mode_give, mode_io, mode_ro, List.zip_cons_cons, List.zip_nil_left, List.zip_nil_right, ite_self, ite_true, ite_false, finish_give, finish_mut1, finish_io0, finish_io2, finish_io3, finish_ioc, finI, finC, finW_ptr, SH, Int.reduceToNat, id_eq, Int.reduceBEq, Int.reduceLE, Int.reduceLT, Nat.reduceAdd, Nat.reduceEqDiff, Nat.reduceLT, Nat.reduceLeDiff, Nat.reduceMul, Nat.reduceSub, reduceIte]
      try trace_state
  · -- and a rule more
    have hm1 : (A.rules.length + 1) * 72 ≤ 140737488355328 := by omega
    have hm2 : A.rules.length + 1 ≤ 9223372036854775807 := by omega
    have hm9 : A.rules.length ≤ 9223372036854775806 := by omega
    have d4 := c4 (belowI bs 2 ai) (belowH 2 ah)
    generalize ruleD bs (belowI bs 2 ai) (belowH 2 ah) = R at *
    obtain ⟨R, ri, rh⟩ := R
    simp only at *
    have hpl : plains [AV.agg [.int .i64 R.effect, .int .i64 R.action, .int .i64 R.object, .int .i64 R.cond.op, .int .i64 R.cond.a, .int .i64 R.cond.b, .sl true (R.cond.args.map (Cond.enc true))]] = true := rfl
    have hxs : AV.shuts (A.rules.map Rule.tencN ++ [R.enc true]) = (A.rules ++ [R]).map (Rule.enc true) := by
      rw [shuts_append, tshuts_NR, List.map_append]
      congr 1
    refine ⟨A, ⟨A.version, A.rules ++ [R]⟩, below1 bs 2 ri rh, (nameD bs 4 (belowI bs 2 ri) (belowH 2 rh)).1, A.rules.map Rule.tencN ++ [R.enc true], false, hxs, hPw, by
      have h1 : wl Rule.w (A.rules ++ [R]) ≤ 2000 := by rw [wl_append]; simp -implicitDefEqProofs only [wl]; omega
      exact h1, ?_⟩
    obtain ⟨k, rfl⟩ : ∃ j, k = j + 1 := ⟨k - 1, by omega⟩
    rw [run_succ rfl rfl, body_eq (nt := 38) (fn := Go.Proofs.Tryz.f15) (by kernel_rfl) rfl rfl rfl rfl rfl rfl rfl rfl]
    simp -implicitDefEqProofs only [Nat.add_sub_cancel, enc_Policy, Rule.dAV] at c1 c2 c3 d4 c5 c6 c7
    rw [show ((0 : Nat) : Int) = 0 from rfl] at c5
    rcases argsR_cases R.cond with ⟨h0, h⟩ | ⟨h0, h⟩
    all_goals
      have h1 := fun id => (h id).1
      simp -implicitDefEqProofs only [h1] at d4
      try (simp -implicitDefEqProofs only [h0, List.map_nil] at hpl)
      simp -implicitDefEqProofs only [W3, ↓D3, ↓DA, ↓DP, ↓DC, enc_Policy, enc_Rule, h0, evCall_give1, Go.Proofs.Tryz.f15, c1, c2, c3, d4, c5, c6, c7, e, hpl, hm1, hm2, hm9, hsc, tshuts_NR, shuts_Rule, shuts_Cond, opQ_assign, finish_many0, resultsOf, resultOf, opS_store, slidP_ptr, opS_call, slidM_io1, slidM_io2, away_ptr, away_agg, away_int, away_own, away_F, plan_15_7, plan_15_9, look_nil, evCall_io1, evCall_io2, evCall_io3, evCall_io4, finJ_1, finJ_2, finJ_3, finJ_4, finJ_int, finJ_bool, finJ_str, finJ_nils, finJ_agg, finJ_own, finJ_sl, finJ_tup, look_cons, reduceCtorEq, evCall_mutOwn, evCall_mutAgg, evGive, giveRows, ioBoxes, mutArgs, roArgs, handArg, mutSlots, isPtrB, pairs, pairss, back_nil, back_cons, backO, backE, setBoxes, importB, mode_mut, mode_give, mode_io, mode_ro, List.zip_cons_cons, List.zip_nil_left, List.zip_nil_right, ite_self, ite_true, ite_false, finish_give, finish_mut1, finish_io0, finish_io2, finish_io3, finish_ioc, finI, finC, finW_ptr, SH, Int.reduceToNat, id_eq, Int.reduceBEq, Int.reduceLE, Int.reduceLT, Nat.reduceAdd, Nat.reduceEqDiff, Nat.reduceLT, Nat.reduceLeDiff, Nat.reduceMul, Nat.reduceSub, reduceIte]
      try trace_state
def valsOf (n i : Nat) : List Bool := (List.range n).map fun k => decide (i / 2 ^ k % 2 = 1)
theorem valsOf_succ (n i : Nat) : valsOf (n + 1) i = valsOf n i ++ [decide (i / 2 ^ n % 2 = 1)] := by simp [valsOf, List.range_succ]
theorem valsOf_len (n i : Nat) : (valsOf n i).length = n := by simp [valsOf]
theorem shr_small : ∀ i < 64, ∀ k < 6, ((i : Nat) : Int).fdiv (2 ^ (min ((k : Nat) : Int).toNat IntKind.i64.bits)) = ((i / 2 ^ k : Nat) : Int) := by decide
theorem and_small : ∀ i < 64, bits .and .i64 ((i : Nat) : Int) 1 = ((i % 2 : Nat) : Int) := by decide
theorem one_small : ∀ i < 64, (((i % 2 : Nat) : Int) == 1) = decide (i % 2 = 1) := by decide
theorem shl_small : ∀ k < 7, IntKind.i64.wrap (1 * 2 ^ (min ((k : Nat) : Int).toNat IntKind.i64.bits)) = ((2 ^ k : Nat) : Int) := by decide
theorem r_impl_valuesOf (k : Nat) (hk : 281474976710656 + 2 ≤ k) (n i : Nat) (hn : n ≤ 6) (hi : i < 64) : run E noExt k 43 [.int .i64 (n : Nat), .int .i64 (i : Nat)] [] = some (.own 0 false 4 1 ((valsOf n i).map AV.bool), []) := by
  obtain ⟨k, rfl⟩ : ∃ j, k = j + 1 := ⟨k - 1, by omega⟩
  rw [run_succ rfl rfl, body_eq (nt := 22) (fn := Go.Proofs.Tryz.f43) (by kernel_rfl) rfl rfl rfl rfl rfl rfl rfl rfl]
  simp -implicitDefEqProofs only [W4, ↓D4, ↓DA, ↓DP, ↓DC, Go.Proofs.Tryz.f43, SH, dedup, nodupB, idx, AV.rows, AV.rowss, AV.mapO, AV.mapOs, Int.reduceToNat, id_eq, Int.reduceBEq, Int.reduceLE, Int.reduceLT, Nat.reduceAdd, Nat.reduceEqDiff, Nat.reduceLT, Nat.reduceLeDiff, Nat.reduceMul, Nat.reduceSub, reduceIte]
  rw [ev_loop]
  refine Eq.trans (loop_list (Q := fun (_ : Unit) z => thenEnd E.P [] _ 0 (thenEv E _ _ _ _ _ (outOf 0 z)) = some (.own 0 false 4 1 ((valsOf n i).map AV.bool), [])) (List.range n) (fun _ _ _ => .inr ()) id
    (fun j _ => { sl := [(1, .int .i64 (i : Nat)), (5, .own 0 false 4 1 ((valsOf j i).map AV.bool)), (8, .int .i64 (n : Nat)), (9, .int .i64 (j : Nat))], bx := [], nx := 1, nt := 22 })
    (fun _ _ => True) () ?_ ?_ (by simp; omega) trivial ?_) ?_
  · intro _ _
    simp -implicitDefEqProofs only [W3, ↓D3, ↓DA, ↓DP, ↓DC, QX, List.length_range, rowss_bools, boxess_bools, mapOs_bools, SH, leaf_some, isNormal, Int.reduceToNat, id_eq, Int.reduceBEq, Int.reduceLE, Int.reduceLT, Nat.reduceAdd, Nat.reduceEqDiff, Nat.reduceLT, Nat.reduceLeDiff, Nat.reduceMul, Nat.reduceSub, reduceIte]
    repeat' (split <;> (rename_i h; (try simp -implicitDefEqProofs only [Bool.not_eq_true', Bool.not_eq_false', decide_eq_true_eq, decide_eq_false_iff_not] at h); (try simp -implicitDefEqProofs only [W3, ↓D3, ↓DA, ↓DP, ↓DC, QX, *, List.length_range, rowss_bools, boxess_bools, mapOs_bools, SH, leaf_some, isNormal, Int.reduceToNat, id_eq, Int.reduceBEq, Int.reduceLE, Int.reduceLT, Nat.reduceAdd, Nat.reduceEqDiff, Nat.reduceLT, Nat.reduceLeDiff, Nat.reduceMul, Nat.reduceSub, reduceIte])))
  · intro pre x r' _ hs' _
    have hp : pre.length < n := by have := congrArg List.length hs'; simp at this; omega
    have h5 : ((pre.length : Int) < (n : Int)) = True := eq_true (by omega)
    have hng : (((pre.length : Nat) : Int) < 0) = False := eq_false (by omega)
    have hw1 : IntKind.i64.wrap ((pre.length : Int) + 1) = ((pre.length + 1 : Nat) : Int) := by rw [IntWalk.i64_in _ (by omega)]; omega
    clear hs'
    have hq := shr_small i hi pre.length (by omega)
    have hlt : i / 2 ^ pre.length < 64 := Nat.lt_of_le_of_lt (Nat.div_le_self _ _) hi
    have hr := and_small _ hlt
    have ho := one_small _ hlt
    have hv := valsOf_succ pre.length i
    have hl := valsOf_len pre.length i
    have hm1 : (valsOf pre.length i).length + 1 ≤ 140737488355328 := by omega
    have hm2 : (valsOf pre.length i).length + 1 ≤ 9223372036854775807 := by omega
    generalize hbb : decide (i / 2 ^ pre.length % 2 = 1) = bb at ho hv
    have hpl : plains [AV.bool bb] = true := rfl
    generalize ((i / 2 ^ pre.length : Nat) : Int) = qq at hq hr
    generalize ((i / 2 ^ pre.length % 2 : Nat) : Int) = rr at hr ho
    have hsh : ∀ t, evBin2 E.P .shr t (.int .i64 ((i : Nat) : Int)) (.int .i64 ((pre.length : Nat) : Int)) = some (.int .i64 qq) := fun t => by simp -implicitDefEqProofs only [evBin2, evBin, evShift, hng, if_false, hq]
    have han : ∀ t, evBin2 E.P .and t (.int .i64 qq) (.int .i64 1) = some (.int .i64 rr) := fun t => by simp [evBin2, evBin, evInt, hr]
    clear hq hr
    simp -implicitDefEqProofs only [W3, ↓D3, ↓DA, ↓DP, ↓DC, QX, h5, hw1, hsh, han, ho, hv, hm1, hm2, hpl, Nat.mul_one, List.map_append, rowss_bools, boxess_bools, mapOs_bools, SH, keep_43_3, leaf_some, isNormal, Int.reduceToNat, id_eq, Int.reduceBEq, Int.reduceLE, Int.reduceLT, Nat.reduceAdd, Nat.reduceEqDiff, Nat.reduceLT, Nat.reduceLeDiff, Nat.reduceMul, Nat.reduceSub, reduceIte]
    repeat' (split <;> (rename_i h; (try simp -implicitDefEqProofs only [Bool.not_eq_true', Bool.not_eq_false', decide_eq_true_eq, decide_eq_false_iff_not] at h); (try simp -implicitDefEqProofs only [W3, ↓D3, ↓DA, ↓DP, ↓DC, QX, *, h5, hw1, hsh, han, ho, hv, hm1, hm2, hpl, Nat.mul_one, List.map_append, rowss_bools, boxess_bools, mapOs_bools, SH, keep_43_3, leaf_some, isNormal, Int.reduceToNat, id_eq, Int.reduceBEq, Int.reduceLE, Int.reduceLT, Nat.reduceAdd, Nat.reduceEqDiff, Nat.reduceLT, Nat.reduceLeDiff, Nat.reduceMul, Nat.reduceSub, reduceIte])))
  · simp -implicitDefEqProofs only [firstRegion]
    rw [keep_43_3]
    have hu0 : valsOf 0 i = [] := rfl
    simp -implicitDefEqProofs only [W3, ↓D3, ↓DA, ↓DP, ↓DC, hu0, Int.reduceToNat, id_eq, Int.reduceBEq, Int.reduceLE, Int.reduceLT, SH, Nat.reduceAdd, Nat.reduceEqDiff, Nat.reduceLT, Nat.reduceLeDiff, Nat.reduceMul, Nat.reduceSub, reduceIte]
  · rfl
theorem scals_bools2 (m : List Bool) : AV.scals (m.map AV.bool) = true := by
  induction m with
  | nil => rfl
  | cons b m ih => simpa [AV.scals, AV.scal] using ih
theorem plains_bools2 (m : List Bool) : plains (m.map AV.bool) = true := plains_map (fun _ => rfl) m
open Go.Lib
def sortUniq (zs : List Int) : List Int := compact (ascending zs)
theorem strict_ext : ∀ {xs ys : List Int}, xs.Pairwise (· < ·) → ys.Pairwise (· < ·) → (∀ x, x ∈ xs ↔ x ∈ ys) → xs = ys
  | [], [], _, _, _ => rfl
  | [], y :: ys, _, _, h => by have := (h y).2 (by simp); simp at this
  | x :: xs, [], _, _, h => by have := (h x).1 (by simp); simp at this
  | x :: xs, y :: ys, hx, hy, h => by
    rw [List.pairwise_cons] at hx hy
    have h1 : x = y := by
      have a := (h x).1 (by simp)
      have b := (h y).2 (by simp)
      rcases List.mem_cons.1 a with a | a
      · exact a
      · rcases List.mem_cons.1 b with b | b
        · exact b.symm
        · have := hx.1 y b; have := hy.1 x a; omega
    subst h1
    congr 1
    refine strict_ext hx.2 hy.2 fun z => ?_
    constructor
    · intro hz
      rcases List.mem_cons.1 ((h z).1 (by simp [hz])) with e | e
      · have := hx.1 z hz; omega
      · exact e
    · intro hz
      rcases List.mem_cons.1 ((h z).2 (by simp [hz])) with e | e
      · have := hy.1 z hz; omega
      · exact e
theorem upTo_spec {d : Array Int} (hs : ∀ i j, i ≤ j → j < d.size → d[i]! ≤ d[j]!) : ∀ m, m ≤ d.size → (compactUpTo d m).Pairwise (· < ·) ∧ ∀ x, x ∈ compactUpTo d m ↔ ∃ i, i < m ∧ d[i]! = x
  | 0, _ => ⟨by simp [compactUpTo], fun x => by simp [compactUpTo]⟩
  | m + 1, hm => by
    obtain ⟨h1, h2⟩ := upTo_spec hs m (by omega)
    rw [compactUpTo_succ]
    by_cases hk : keeps d m = true
    · rw [if_pos hk]
      refine ⟨?_, fun x => ?_⟩
      · rw [List.pairwise_append]
        refine ⟨h1, by simp, fun a ha b hb => ?_⟩
        obtain rfl := List.mem_singleton.1 hb
        obtain ⟨i, hi, rfl⟩ := (h2 a).1 ha
        have hle := hs i (m - 1) (by omega) (by omega)
        have hle2 := hs (m - 1) m (by omega) (by omega)
        simp -implicitDefEqProofs only [keeps, decide_eq_true_eq] at hk
        have := hk.resolve_left (by omega)
        omega
      · rw [List.mem_append, h2, List.mem_singleton]
        constructor
        · rintro (⟨i, hi, rfl⟩ | rfl)
          · exact ⟨i, by omega, rfl⟩
          · exact ⟨m, by omega, rfl⟩
        · rintro ⟨i, hi, rfl⟩
          by_cases e : i = m
          · exact .inr (by rw [e])
          · exact .inl ⟨i, by omega, rfl⟩
    · rw [if_neg hk, List.append_nil]
      refine ⟨h1, fun x => ?_⟩
      rw [h2]
      simp -implicitDefEqProofs only [keeps, decide_eq_true_eq, not_or, Classical.not_not] at hk
      constructor
      · rintro ⟨i, hi, rfl⟩
        exact ⟨i, by omega, rfl⟩
      · rintro ⟨i, hi, rfl⟩
        by_cases e : i = m
        · exact ⟨m - 1, by omega, by rw [e]; exact hk.2.symm⟩
        · exact ⟨i, by omega, rfl⟩
theorem ascending_sorted (zs : List Int) : (ascending zs).Pairwise (· ≤ ·) := by
  have := List.pairwise_mergeSort (le := fun x y : Int => decide (x ≤ y)) (fun a b c h1 h2 => by simp at *; omega) (fun a b => by simp; omega) zs
  exact this.imp (by simp)
theorem ascending_mem (zs : List Int) (x : Int) : x ∈ ascending zs ↔ x ∈ zs := by
  unfold ascending
  exact List.mem_mergeSort
theorem sortUniq_spec (zs : List Int) : (sortUniq zs).Pairwise (· < ·) ∧ ∀ x, x ∈ sortUniq zs ↔ x ∈ zs := by
  have hs : ∀ i j, i ≤ j → j < (ascending zs).toArray.size → (ascending zs).toArray[i]! ≤ (ascending zs).toArray[j]! := by
    intro i j hij hj
    have hj' : j < (ascending zs).length := by simpa using hj
    rw [getElem!_pos (ascending zs).toArray i (by simp; omega), getElem!_pos (ascending zs).toArray j hj]
    simp -implicitDefEqProofs only [List.getElem_toArray]
    rcases Nat.lt_or_eq_of_le hij with h | rfl
    · exact List.pairwise_iff_getElem.1 (ascending_sorted zs) i j (by omega) hj' h
    · exact Int.le_refl _
  obtain ⟨h1, h2⟩ := upTo_spec hs (ascending zs).length (by simp)
  refine ⟨h1, fun x => ?_⟩
  rw [show sortUniq zs = compactUpTo (ascending zs).toArray (ascending zs).length from rfl, h2, ← ascending_mem zs x]
  constructor
  · rintro ⟨i, hi, rfl⟩
    rw [getElem!_pos (ascending zs).toArray i (by simpa using hi)]
    simp
  · intro hx
    obtain ⟨i, hi, rfl⟩ := List.getElem_of_mem hx
    exact ⟨i, hi, by rw [getElem!_pos (ascending zs).toArray i (by simpa using hi)]; simp⟩
theorem sortUniq_eq {zs ys : List Int} (hy : ys.Pairwise (· < ·)) (h : ∀ x, x ∈ ys ↔ x ∈ zs) : sortUniq zs = ys := by
  obtain ⟨h1, h2⟩ := sortUniq_spec zs
  exact strict_ext h1 hy fun x => (h2 x).trans (h x).symm
end Go.Proofs.YtokjpncehggojaaGreat.Flat
