/-
A condition depends on the facts that it names, and on no others: the law.
-/
import Derived.Test.YtigfcbcnfppmcaaGreatEqU
import Derived.Test.YtigfcbcnfppmcaaGreatEqC

set_option linter.unusedVariables false
set_option linter.unusedSimpArgs false
set_option maxRecDepth 10000
namespace Go.Proofs.YtigfcbcnfppmcaaGreat.Flat
theorem not_cond {x : Cond} (h : isCond ⟨7, 0, 0, [x]⟩ = true) : isCond x = true := by
  unfold isCond at h ⊢
  rw [Bool.and_eq_true] at h ⊢
  obtain ⟨h1, h2⟩ := h
  refine ⟨?_, ?_⟩
  · rw [decide_eq_true_eq] at h1 ⊢
    rw [Cond.w_eq] at h1
    simp -implicitDefEqProofs only [wl] at h1
    omega
  · rw [Cond.valid_eq] at h2
    simp -implicitDefEqProofs only [List.all_cons, List.all_nil, Bool.and_true, Bool.and_eq_true] at h2
    exact h2.2
theorem not_eval {l : List Includes} {s : List Fact} {q : Request} {x : Cond} (h : isCond ⟨7, 0, 0, [x]⟩ = true) : evalAt l s q ⟨7, 0, 0, [x]⟩ = !evalAt l s q x := by
  have hx := not_cond h
  unfold evalAt
  rw [h, hx, Bool.true_and, Bool.true_and, Cond.eval_eq]
  rfl
theorem bad_eval {l : List Includes} {s : List Fact} {q : Request} {x : Cond} (h : isCond x = false) : evalAt l s q x = false := by
  unfold evalAt
  rw [h]; rfl
theorem after_refF {nid : Nat} {dst : Option Nat} {st : St} {args : List AV} {ret : AV} (hs : small ret = true) (hp : args.any (·.any isPtr) = false) (hn : noref ret = false) : afterRo nid dst st args (some (ret, [])) = (st.mapO (frzO (args.flatMap AV.rows)) .ptr (frzE (args.flatMap AV.rows))).put dst (import_ nid ret) := by
  rw [← freeze_all]
  simp -implicitDefEqProofs only [afterRo, hs, if_true, hn, hp, Bool.false_eq_true, if_false]
theorem scal_slc {l : List Cond} (h : l ≠ []) : AV.scal (.sl true (l.map (Cond.enc true))) = false := by
  cases l with
  | nil => exact absurd rfl h
  | cons => rfl
theorem atTime_self {q : Request} : atTime q q.now = q := rfl
theorem until_same {l : List Includes} {s : List Fact} {x : Cond} {q : Request} {m : Int} {N : Nat} (h : ∀ j, j < N → sameAt l s x q m j = true) (i : Nat) (hi : i ≤ N) : evalAt l s (atTime q (q.now + (i : Nat))) x = evalAt l s q x := by
  cases i with
  | zero => rw [show q.now + ((0 : Nat) : Int) = q.now from Int.add_zero _, atTime_self]
  | succ j =>
    have := h j (by omega)
    unfold sameAt at this
    simp -implicitDefEqProofs only [Bool.and_eq_true, beq_iff_eq] at this
    exact this.2.2
theorem until_off {l : List Includes} {s : List Fact} {q : Request} {x : Cond} {m : Int} (h : (isRequest q && (decide (0 ≤ m) && decide (m ≤ 60))) = false) : holdsUntil l s x q m = q.now := by
  unfold holdsUntil
  rw [if_neg]
  unfold inR
  rw [Bool.not_eq_true]
  exact h
/-- What is asked behind the first half's questions. -/
theorem until_end {l : List Includes} {s : List Fact} {x : Cond} {q : Request} {m : Int} {N : Nat} (h : sameAt l s x q m N = false) (h1 : decide (q.now + (N : Nat) = q.now + m) = false) (hle : q.now + (N : Nat) ≤ q.now + m) (h2 : decide (q.now + (N : Nat) = 10000) = false) (h3 : q.now + (N : Nat) ≤ 10000) :
    (evalAt l s (atTime q (q.now + ((N + 1 : Nat) : Int))) x == evalAt l s q x) = false := by
  unfold sameAt at h
  have e1 := of_decide_eq_false h1
  have e2 := of_decide_eq_false h2
  rwa [decide_eq_true (by omega : q.now + (N : Nat) < q.now + m), decide_eq_true (by omega : q.now + (N : Nat) < 10000), Bool.true_and, Bool.true_and] at h
set_option maxHeartbeats 8000000 in
theorem law_FnEvaluated (bs : List Int) (hfit : FitL (fun _ => True) bs) (k : Nat) (hk : 1152921504606846976 ≤ k) : run E noExt k 3 [.sl false (bs.map byteA)] [] = some (.bool true, []) := by
  by_cases hlen : bs.length ≤ 1048576
  · have c0 := r_laws_big (fl := false) (k - 1) (by omega) bs (by omega)
    rw [decide_eq_false (by omega : ¬ (1048576 : Int) < (bs.length : Nat))] at c0
    have c1 := r_spec_DrawEvalCond (fl := false) (k - 1) (by omega) bs (by omega)
    have c2 := r_spec_DrawHoldsUntil (fl := false) (k - 1) (by omega) bs (by omega)
    have hll : (evC bs).1.length ≤ 3 := caseD_len1
    have hsl : (evC bs).2.1.length ≤ 30 := caseD_len
    have hxw := evX_w bs
    generalize (evC bs).1 = l at *
    generalize (evC bs).2.1 = s at *
    generalize (evC bs).2.2.1 = q at *
    generalize evX bs = x at *
    generalize evM bs = m at *
    have hul := usedL_len (usesAt x q) s
    have hol := onlyFacts_len s (usedL (usesAt x q) s)
    have hnw : (⟨7, 0, 0, [x]⟩ : Cond).w ≤ 200 := by rw [Cond.w_eq]; simp -implicitDefEqProofs only [wl]; omega
    have c3 := r_impl_EvalCond (fl := true) (f2 := true) (f3 := true) (f4 := true) (k - 1) (by omega) l (by omega) s (by omega) x (by omega)
    have c4 := r_impl_UsedFacts (fl := true) (f2 := true) (k - 1) l s (by omega) x (by omega) (by omega) q
    have c5 := r_impl_OnlyFacts (fl := true) (f2 := true) (k - 1) (by omega) s (by omega) (usedL (usesAt x q) s) (by omega)
    have c6 := r_impl_EvalCond (fl := true) (f2 := true) (f3 := true) (f4 := true) (k - 1) (by omega) l (by omega) (onlyFacts s (usedL (usesAt x q) s)) (by omega) x (by omega) q
    rw [eval_used] at c6
    have c7 := r_impl_CondNot (k - 1) (by omega) x (by omega)
    have c8 := r_impl_IsCond (fl := true) (k - 1) (by omega) ⟨7, 0, 0, [x]⟩ (by omega)
    have c9 := r_impl_EvalCond (fl := true) (f2 := true) (f3 := true) (f4 := true) (k - 1) (by omega) l (by omega) s (by omega) ⟨7, 0, 0, [x]⟩ (by omega) q
    have c10 := r_impl_IsCond (fl := true) (k - 1) (by omega) x (by omega)
    have c11 := r_impl_HoldsUntil (fl := true) (f2 := true) (f3 := true) (f4 := true) (k - 1) (by omega) l (by omega) s (by omega) x (by omega) q m
    have c12 := r_impl_IsRequest (fl := true) (k - 1) (by omega) q
    have c13 := r_impl_AtTime (fl := true) (k - 1) (by omega) q
    have hn := not_eval (l := l) (s := s) (q := q) (x := x)
    have hb := bad_eval (l := l) (s := s) (q := q) (x := x)
    have hnx := not_cond (x := x)
    have c14 := c3 q
    have hoff := until_off (l := l) (s := s) (q := q) (x := x) (m := m)
    have hon : isRequest q = true → 0 ≤ m → m ≤ 60 → holdsUntil l s x q m = q.now + (lead (sameAt l s x q m) 61 0 : Nat) := fun h1 h2 h3 => by
      unfold holdsUntil
      rw [if_pos]
      unfold inR
      rw [h1, decide_eq_true h2, decide_eq_true h3]; rfl
    generalize onlyFacts s (usedL (usesAt x q) s) = o at *
    generalize usedL (usesAt x q) s = u at *
    obtain ⟨k, rfl⟩ : ∃ j, k = j + 1 := ⟨k - 1, by omega⟩
    rw [run_succ rfl rfl, body_eq (nt := 152) (fn := Go.Proofs.Tryz.f3) (by kernel_rfl) rfl rfl rfl rfl rfl rfl rfl rfl]
    simp -implicitDefEqProofs only [Nat.add_sub_cancel, enc_Cond, enc_atTime, List.map_cons, List.map_nil] at c3 c4 c6 c7 c8 c9 c10 c11 c13 c14
    simp -implicitDefEqProofs only [Nat.add_sub_cancel, enc_Request] at c0 c1 c2 c4 c5 c6 c9 c11 c12 c13 c14
    generalize hN0 : holdsUntil l s x q m = T at *
    have hcase : (isCond ⟨7, 0, 0, [x]⟩ = true ∧ isCond x = true) ∨ (isCond ⟨7, 0, 0, [x]⟩ = false ∧ isCond x = true) ∨ (isCond ⟨7, 0, 0, [x]⟩ = false ∧ isCond x = false) := by
      cases h1 : isCond ⟨7, 0, 0, [x]⟩
      · cases h2 : isCond x
        · exact .inr (.inr ⟨rfl, rfl⟩)
        · exact .inr (.inl ⟨rfl, rfl⟩)
      · exact .inl ⟨rfl, hnx h1⟩
    have hreq : ((isRequest q = false) ∨ (isRequest q = true ∧ ¬ 0 ≤ m) ∨ (isRequest q = true ∧ 0 ≤ m ∧ ¬ m ≤ 60)) ∨ (isRequest q = true ∧ 0 ≤ m ∧ m ≤ 60) := by
      cases isRequest q
      · exact .inl (.inl rfl)
      · by_cases h1 : 0 ≤ m
        · by_cases h2 : m ≤ 60
          · exact .inr ⟨rfl, h1, h2⟩
          · exact .inl (.inr (.inr ⟨rfl, h1, h2⟩))
        · exact .inl (.inr (.inl ⟨rfl, h1⟩))
    rcases argsR_cases x with ⟨h0, h⟩ | ⟨h0, h⟩
    all_goals
      have h1 := fun id => (h id).1
      simp -implicitDefEqProofs only [h1] at c1 c2
    all_goals
      rcases hcase with ⟨hc1, hc2⟩ | ⟨hc1, hc2⟩ | ⟨hc1, hc2⟩
    all_goals
      rw [hc1] at c8
      rw [hc2] at c10
    all_goals
      rcases hreq with (hr1 | ⟨hr1, hr2⟩ | ⟨hr1, hr2, hr3⟩) | ⟨hr1, hr2, hr3⟩
    all_goals
      rw [hr1] at c12
    · rw [hn hc1] at c9
      simp -implicitDefEqProofs only [h0, List.map_nil] at c3 c4 c6 c7 c8 c9 c10 c11 c14
      have hT : T = q.now := hoff (by rw [hr1]; rfl)
      rw [hT] at c11
      simp -implicitDefEqProofs only [QS, QN, QG, QO, ZRS, ↓ZDS, ZRG, ↓ZDG, ZRO, ↓ZDO, Go.Proofs.Tryz.f3, c0, c1, c2, c4, c5, c6, c7, c8, c9, c10, c11, c12, c14, bne_self_eq_false, Bool.not_beq_self, scals_ints, scals_Fact, shuts_Fact, tscals_Includes, shuts_Includes, ifEv_bool, gate_bool, pick_bool, plan_3_19, plan_3_21, SO, SH, evAppend, rowOf, noref, isRef, isPtr, noPtr, isBad, AV.isUndef, SN, evCutRow, Int.reduceToNat, id_eq, Int.reduceBEq, Int.reduceLE, Int.reduceLT, SS, one_ne2, num_ne2, TIS, MDS, AV.cells, AV.isCell, Value.cells, Nat.reduceAdd, Nat.reduceEqDiff, Nat.reduceLT, Nat.reduceLeDiff, Nat.reduceMul, Nat.reduceSub, reduceIte]
      try trace_state
    · rw [hn hc1] at c9
      simp -implicitDefEqProofs only [h0, List.map_nil] at c3 c4 c6 c7 c8 c9 c10 c11 c14
      have hT : T = q.now := hoff (by rw [decide_eq_false hr2]; simp)
      rw [hT] at c11
      simp -implicitDefEqProofs only [QS, QN, QG, QO, ZRS, ↓ZDS, ZRG, ↓ZDG, ZRO, ↓ZDO, Go.Proofs.Tryz.f3, c0, c1, c2, c4, c5, c6, c7, c8, c9, c10, c11, c12, c14, decide_eq_false hr2, show decide (m ≥ 0) = false from decide_eq_false hr2, bne_self_eq_false, Bool.not_beq_self, scals_ints, scals_Fact, shuts_Fact, tscals_Includes, shuts_Includes, ifEv_bool, gate_bool, pick_bool, plan_3_19, plan_3_21, SO, SH, evAppend, rowOf, noref, isRef, isPtr, noPtr, isBad, AV.isUndef, SN, evCutRow, Int.reduceToNat, id_eq, Int.reduceBEq, Int.reduceLE, Int.reduceLT, SS, one_ne2, num_ne2, TIS, MDS, AV.cells, AV.isCell, Value.cells, Nat.reduceAdd, Nat.reduceEqDiff, Nat.reduceLT, Nat.reduceLeDiff, Nat.reduceMul, Nat.reduceSub, reduceIte]
      try trace_state
    · rw [hn hc1] at c9
      simp -implicitDefEqProofs only [h0, List.map_nil] at c3 c4 c6 c7 c8 c9 c10 c11 c14
      have hT : T = q.now := hoff (by rw [decide_eq_false hr3]; simp)
      rw [hT] at c11
      simp -implicitDefEqProofs only [QS, QN, QG, QO, ZRS, ↓ZDS, ZRG, ↓ZDG, ZRO, ↓ZDO, Go.Proofs.Tryz.f3, c0, c1, c2, c4, c5, c6, c7, c8, c9, c10, c11, c12, c14, decide_eq_true hr2, show decide (m ≥ 0) = true from decide_eq_true hr2, decide_eq_false hr3, bne_self_eq_false, Bool.not_beq_self, scals_ints, scals_Fact, shuts_Fact, tscals_Includes, shuts_Includes, ifEv_bool, gate_bool, pick_bool, plan_3_19, plan_3_21, SO, SH, evAppend, rowOf, noref, isRef, isPtr, noPtr, isBad, AV.isUndef, SN, evCutRow, Int.reduceToNat, id_eq, Int.reduceBEq, Int.reduceLE, Int.reduceLT, SS, one_ne2, num_ne2, TIS, MDS, AV.cells, AV.isCell, Value.cells, Nat.reduceAdd, Nat.reduceEqDiff, Nat.reduceLT, Nat.reduceLeDiff, Nat.reduceMul, Nat.reduceSub, reduceIte]
      try trace_state
    · rw [hn hc1] at c9
      simp -implicitDefEqProofs only [h0, List.map_nil] at c3 c4 c6 c7 c8 c9 c10 c11 c14
      simp -implicitDefEqProofs only [QS, QN, QG, QO, ZRS, ↓ZDS, ZRG, ↓ZDG, ZRO, ↓ZDO, Go.Proofs.Tryz.f3, c0, c1, c2, c4, c5, c6, c7, c8, c9, c10, c11, c12, c14, decide_eq_true hr2, show decide (m ≥ 0) = true from decide_eq_true hr2, decide_eq_true hr3, bne_self_eq_false, Bool.not_beq_self, scals_ints, scals_Fact, shuts_Fact, tscals_Includes, shuts_Includes, ifEv_bool, gate_bool, pick_bool, plan_3_19, plan_3_21, SO, SH, evAppend, rowOf, noref, isRef, isPtr, noPtr, isBad, AV.isUndef, SN, evCutRow, Int.reduceToNat, id_eq, Int.reduceBEq, Int.reduceLE, Int.reduceLT, SS, one_ne2, num_ne2, TIS, MDS, AV.cells, AV.isCell, Value.cells, Nat.reduceAdd, Nat.reduceEqDiff, Nat.reduceLT, Nat.reduceLeDiff, Nat.reduceMul, Nat.reduceSub, reduceIte]
      obtain ⟨hN, hE⟩ := lead_same (l := l) (s := s) (x := x) (q := q) (most := m) hr3
      have hL : ∀ j, j < lead (sameAt l s x q m) 61 0 → sameAt l s x q m j = true := fun j hj => lead_lt _ 61 0 j (by omega) hj
      have hTe := hon hr1 hr2 hr3
      generalize lead (sameAt l s x q m) 61 0 = N at hN hE hL hTe
      have hall := until_same hL
      have hNm : q.now + (N : Nat) ≤ q.now + m ∧ q.now + (N : Nat) ≤ 10000 := by
        have hn0 := isRequest_now hr1
        cases N with
        | zero => omega
        | succ j =>
          have := hL j (by omega)
          unfold sameAt at this
          simp -implicitDefEqProofs only [Bool.and_eq_true, decide_eq_true_eq] at this
          omega
      have hend := until_end hE
      have hn0 := isRequest_now hr1
      have hw : IntKind.i64.wrap (q.now + m) = q.now + m := IntWalk.i64_in _ (by omega)
      rw [hTe]
      clear c0 c1 c2 c4 c5 c6 c7 c8 c9 c10 c11 c14 hn hb hnx hon hoff hul hol hnw hE hL hfit
      rw [ev_loop]
      refine Eq.trans (loop_list (Q := fun (_ : Unit) z => thenEnd E.P [] _ 0 (thenEv E _ _ _ _ _ (thenEv E _ _ _ _ _ (outOf 0 z))) = some (.bool true, [])) (List.range (N + 1)) goStep id
        (fun i _ => { sl := [(10, .own 0 false 125 2 (l.map (Includes.enc true))), (11, .own 1 false 74 6 (s.map (Fact.enc true))), (12, .ptr 0 0), (13, .ptr 1 0), (14, .int .i64 m), (15, .int .i64 (q.now + (N : Nat))), (16, .int .i64 (q.now + (i : Nat)))],
                      bx := [(0, [.int .i64 x.op, .int .i64 x.a, .int .i64 x.b, .nils]), (1, [.int .i64 q.person, .int .i64 q.device, .int .i64 q.program, .int .i64 q.action, .int .i64 q.object, .int .i64 q.now])], nx := 4, nt := 152 })
        (fun _ _ => True) () ?_ ?_ (by simp; omega) trivial ?_) ?_
      · intro _ _
        rw [List.length_range]
        have hx1 : ¬ (q.now + ((N + 1 : Nat) : Int) ≤ q.now + (N : Nat)) := by omega
        have hw1 : IntKind.i64.wrap (q.now + (N : Nat) + 1) = q.now + ((N + 1 : Nat) : Int) := by rw [IntWalk.i64_in _ (by omega)]; omega
        have d3 := c3 (atTime q (q.now + ((N + 1 : Nat) : Int)))
        have d4 := c3 q
        have d13 := c13 (q.now + ((N + 1 : Nat) : Int))
        simp -implicitDefEqProofs only [enc_atTime] at d3
        simp -implicitDefEqProofs only [enc_Request] at d4
        have g1 : decide (q.now + (N : Nat) ≥ q.now) = true := decide_eq_true (by omega)
        have g2 : decide (q.now + (N : Nat) ≤ q.now + m) = true := decide_eq_true (by omega)
        cases e3 : q.now + (N : Nat) == q.now + m
        · cases e4 : q.now + (N : Nat) == 10000
          · have hne : (evalAt l s (atTime q (q.now + ((N + 1 : Nat) : Int))) x != evalAt l s q x) = true := by
              unfold bne
              rw [hend (decide_eq_false (by simpa using e3)) hNm.1 (decide_eq_false (by simpa using e4)) hNm.2]; rfl
            generalize evalAt l s (atTime q (q.now + ((N + 1 : Nat) : Int))) x = b1 at d3 hne
            generalize evalAt l s q x = b2 at d4 hne
            simp -implicitDefEqProofs only [QS, QN, QG, QO, ZRS, ↓ZDS, ZRG, ↓ZDG, ZRO, ↓ZDO, hx1, hw, hw1, g1, g2, e3, e4, d3, d4, d13, scals_Fact, shuts_Fact, tscals_Includes, shuts_Includes, plan_3_19, plan_3_21, SO, SH, evAppend, rowOf, noref, isRef, isPtr, noPtr, isBad, AV.isUndef, leaf_some, isNormal, ifEv_bool, gate_bool, gateP_bool, gateQ_bool, pick_bool, SN, evCutRow, Int.reduceToNat, id_eq, Int.reduceBEq, Int.reduceLE, Int.reduceLT, SS, one_ne2, num_ne2, TIS, MDS, AV.cells, AV.isCell, Value.cells, Nat.reduceAdd, Nat.reduceEqDiff, Nat.reduceLT, Nat.reduceLeDiff, Nat.reduceMul, Nat.reduceSub, reduceIte]
            rw [show (!(b1 == b2)) = true from hne]
          ·
            simp -implicitDefEqProofs only [QS, QN, QG, QO, ZRS, ↓ZDS, ZRG, ↓ZDG, ZRO, ↓ZDO, hx1, hw, hw1, g1, g2, e3, e4, scals_Fact, shuts_Fact, tscals_Includes, shuts_Includes, plan_3_19, plan_3_21, SO, SH, evAppend, rowOf, noref, isRef, isPtr, noPtr, isBad, AV.isUndef, leaf_some, isNormal, ifEv_bool, gate_bool, gateP_bool, gateQ_bool, pick_bool, SN, evCutRow, Int.reduceToNat, id_eq, Int.reduceBEq, Int.reduceLE, Int.reduceLT, SS, one_ne2, num_ne2, TIS, MDS, AV.cells, AV.isCell, Value.cells, Nat.reduceAdd, Nat.reduceEqDiff, Nat.reduceLT, Nat.reduceLeDiff, Nat.reduceMul, Nat.reduceSub, reduceIte]
            try trace_state
        ·
          simp -implicitDefEqProofs only [QS, QN, QG, QO, ZRS, ↓ZDS, ZRG, ↓ZDG, ZRO, ↓ZDO, hx1, hw, hw1, g1, g2, e3, scals_Fact, shuts_Fact, tscals_Includes, shuts_Includes, plan_3_19, plan_3_21, SO, SH, evAppend, rowOf, noref, isRef, isPtr, noPtr, isBad, AV.isUndef, leaf_some, isNormal, ifEv_bool, gate_bool, gateP_bool, gateQ_bool, pick_bool, SN, evCutRow, Int.reduceToNat, id_eq, Int.reduceBEq, Int.reduceLE, Int.reduceLT, SS, one_ne2, num_ne2, TIS, MDS, AV.cells, AV.isCell, Value.cells, Nat.reduceAdd, Nat.reduceEqDiff, Nat.reduceLT, Nat.reduceLeDiff, Nat.reduceMul, Nat.reduceSub, reduceIte]
          try trace_state
      · intro pre z r' _ hs' _
        have hp5 : pre.length ≤ N := by have := congrArg List.length hs'; simp at this; omega
        clear hs'
        have hx1 : q.now + (pre.length : Nat) ≤ q.now + (N : Nat) := by omega
        have hw1 : IntKind.i64.wrap (q.now + (pre.length : Nat) + 1) = q.now + ((pre.length + 1 : Nat) : Int) := by rw [IntWalk.i64_in _ (by omega)]; omega
        have d3 := c3 (atTime q (q.now + (pre.length : Nat)))
        have d4 := c3 q
        have d13 := c13 (q.now + (pre.length : Nat))
        rw [hall _ hp5] at d3
        simp -implicitDefEqProofs only [enc_atTime] at d3
        simp -implicitDefEqProofs only [enc_Request] at d4
        generalize evalAt l s q x = b2 at d3 d4
        simp -implicitDefEqProofs only [QS, QN, QG, QO, ZRS, ↓ZDS, ZRG, ↓ZDG, ZRO, ↓ZDO, hx1, hw1, d3, d4, d13, goStep, bne_self_eq_false, scals_Fact, shuts_Fact, tscals_Includes, shuts_Includes, plan_3_19, plan_3_21, SO, SH, evAppend, rowOf, noref, isRef, isPtr, noPtr, isBad, AV.isUndef, keep_3_17, leaf_some, isNormal, ifEv_bool, gate_bool, gateP_bool, gateQ_bool, pick_bool, SN, evCutRow, Int.reduceToNat, id_eq, Int.reduceBEq, Int.reduceLE, Int.reduceLT, SS, one_ne2, num_ne2, TIS, MDS, AV.cells, AV.isCell, Value.cells, Nat.reduceAdd, Nat.reduceEqDiff, Nat.reduceLT, Nat.reduceLeDiff, Nat.reduceMul, Nat.reduceSub, reduceIte]
        try trace_state
      · simp -implicitDefEqProofs only [firstRegion]
        rw [keep_3_17]
        have hz : q.now + ((0 : Nat) : Int) = q.now := Int.add_zero _
        rw [hz]
        simp -implicitDefEqProofs only [QS, QN, QG, QO, ZRS, ↓ZDS, ZRG, ↓ZDG, ZRO, ↓ZDO, SN, evCutRow, Int.reduceToNat, id_eq, Int.reduceBEq, Int.reduceLE, Int.reduceLT, SO, SH, evAppend, rowOf, noref, isRef, isPtr, noPtr, isBad, AV.isUndef, SS, one_ne2, num_ne2, TIS, MDS, AV.cells, AV.isCell, Value.cells, Nat.reduceAdd, Nat.reduceEqDiff, Nat.reduceLT, Nat.reduceLeDiff, Nat.reduceMul, Nat.reduceSub, reduceIte]
        try trace_state
      · rfl
    · simp -implicitDefEqProofs only [h0, List.map_nil] at c3 c4 c6 c7 c8 c9 c10 c11 c14
      have hT : T = q.now := hoff (by rw [hr1]; rfl)
      rw [hT] at c11
      simp -implicitDefEqProofs only [QS, QN, QG, QO, ZRS, ↓ZDS, ZRG, ↓ZDG, ZRO, ↓ZDO, Go.Proofs.Tryz.f3, c0, c1, c2, c4, c5, c6, c7, c8, c9, c10, c11, c12, c14, bne_self_eq_false, Bool.not_beq_self, scals_ints, scals_Fact, shuts_Fact, tscals_Includes, shuts_Includes, ifEv_bool, gate_bool, pick_bool, plan_3_19, plan_3_21, SO, SH, evAppend, rowOf, noref, isRef, isPtr, noPtr, isBad, AV.isUndef, SN, evCutRow, Int.reduceToNat, id_eq, Int.reduceBEq, Int.reduceLE, Int.reduceLT, SS, one_ne2, num_ne2, TIS, MDS, AV.cells, AV.isCell, Value.cells, Nat.reduceAdd, Nat.reduceEqDiff, Nat.reduceLT, Nat.reduceLeDiff, Nat.reduceMul, Nat.reduceSub, reduceIte]
      try trace_state
    · simp -implicitDefEqProofs only [h0, List.map_nil] at c3 c4 c6 c7 c8 c9 c10 c11 c14
      have hT : T = q.now := hoff (by rw [decide_eq_false hr2]; simp)
      rw [hT] at c11
      simp -implicitDefEqProofs only [QS, QN, QG, QO, ZRS, ↓ZDS, ZRG, ↓ZDG, ZRO, ↓ZDO, Go.Proofs.Tryz.f3, c0, c1, c2, c4, c5, c6, c7, c8, c9, c10, c11, c12, c14, decide_eq_false hr2, show decide (m ≥ 0) = false from decide_eq_false hr2, bne_self_eq_false, Bool.not_beq_self, scals_ints, scals_Fact, shuts_Fact, tscals_Includes, shuts_Includes, ifEv_bool, gate_bool, pick_bool, plan_3_19, plan_3_21, SO, SH, evAppend, rowOf, noref, isRef, isPtr, noPtr, isBad, AV.isUndef, SN, evCutRow, Int.reduceToNat, id_eq, Int.reduceBEq, Int.reduceLE, Int.reduceLT, SS, one_ne2, num_ne2, TIS, MDS, AV.cells, AV.isCell, Value.cells, Nat.reduceAdd, Nat.reduceEqDiff, Nat.reduceLT, Nat.reduceLeDiff, Nat.reduceMul, Nat.reduceSub, reduceIte]
      try trace_state
    · simp -implicitDefEqProofs only [h0, List.map_nil] at c3 c4 c6 c7 c8 c9 c10 c11 c14
      have hT : T = q.now := hoff (by rw [decide_eq_false hr3]; simp)
      rw [hT] at c11
      simp -implicitDefEqProofs only [QS, QN, QG, QO, ZRS, ↓ZDS, ZRG, ↓ZDG, ZRO, ↓ZDO, Go.Proofs.Tryz.f3, c0, c1, c2, c4, c5, c6, c7, c8, c9, c10, c11, c12, c14, decide_eq_true hr2, show decide (m ≥ 0) = true from decide_eq_true hr2, decide_eq_false hr3, bne_self_eq_false, Bool.not_beq_self, scals_ints, scals_Fact, shuts_Fact, tscals_Includes, shuts_Includes, ifEv_bool, gate_bool, pick_bool, plan_3_19, plan_3_21, SO, SH, evAppend, rowOf, noref, isRef, isPtr, noPtr, isBad, AV.isUndef, SN, evCutRow, Int.reduceToNat, id_eq, Int.reduceBEq, Int.reduceLE, Int.reduceLT, SS, one_ne2, num_ne2, TIS, MDS, AV.cells, AV.isCell, Value.cells, Nat.reduceAdd, Nat.reduceEqDiff, Nat.reduceLT, Nat.reduceLeDiff, Nat.reduceMul, Nat.reduceSub, reduceIte]
      try trace_state
    · simp -implicitDefEqProofs only [h0, List.map_nil] at c3 c4 c6 c7 c8 c9 c10 c11 c14
      simp -implicitDefEqProofs only [QS, QN, QG, QO, ZRS, ↓ZDS, ZRG, ↓ZDG, ZRO, ↓ZDO, Go.Proofs.Tryz.f3, c0, c1, c2, c4, c5, c6, c7, c8, c9, c10, c11, c12, c14, decide_eq_true hr2, show decide (m ≥ 0) = true from decide_eq_true hr2, decide_eq_true hr3, bne_self_eq_false, Bool.not_beq_self, scals_ints, scals_Fact, shuts_Fact, tscals_Includes, shuts_Includes, ifEv_bool, gate_bool, pick_bool, plan_3_19, plan_3_21, SO, SH, evAppend, rowOf, noref, isRef, isPtr, noPtr, isBad, AV.isUndef, SN, evCutRow, Int.reduceToNat, id_eq, Int.reduceBEq, Int.reduceLE, Int.reduceLT, SS, one_ne2, num_ne2, TIS, MDS, AV.cells, AV.isCell, Value.cells, Nat.reduceAdd, Nat.reduceEqDiff, Nat.reduceLT, Nat.reduceLeDiff, Nat.reduceMul, Nat.reduceSub, reduceIte]
      obtain ⟨hN, hE⟩ := lead_same (l := l) (s := s) (x := x) (q := q) (most := m) hr3
      have hL : ∀ j, j < lead (sameAt l s x q m) 61 0 → sameAt l s x q m j = true := fun j hj => lead_lt _ 61 0 j (by omega) hj
      have hTe := hon hr1 hr2 hr3
      generalize lead (sameAt l s x q m) 61 0 = N at hN hE hL hTe
      have hall := until_same hL
      have hNm : q.now + (N : Nat) ≤ q.now + m ∧ q.now + (N : Nat) ≤ 10000 := by
        have hn0 := isRequest_now hr1
        cases N with
        | zero => omega
        | succ j =>
          have := hL j (by omega)
          unfold sameAt at this
          simp -implicitDefEqProofs only [Bool.and_eq_true, decide_eq_true_eq] at this
          omega
      have hend := until_end hE
      have hn0 := isRequest_now hr1
      have hw : IntKind.i64.wrap (q.now + m) = q.now + m := IntWalk.i64_in _ (by omega)
      rw [hTe]
      clear c0 c1 c2 c4 c5 c6 c7 c8 c9 c10 c11 c14 hn hb hnx hon hoff hul hol hnw hE hL hfit
      rw [ev_loop]
      refine Eq.trans (loop_list (Q := fun (_ : Unit) z => thenEnd E.P [] _ 0 (thenEv E _ _ _ _ _ (thenEv E _ _ _ _ _ (outOf 0 z))) = some (.bool true, [])) (List.range (N + 1)) goStep id
        (fun i _ => { sl := [(10, .own 0 false 125 2 (l.map (Includes.enc true))), (11, .own 1 false 74 6 (s.map (Fact.enc true))), (12, .ptr 0 0), (13, .ptr 1 0), (14, .int .i64 m), (15, .int .i64 (q.now + (N : Nat))), (16, .int .i64 (q.now + (i : Nat)))],
                      bx := [(0, [.int .i64 x.op, .int .i64 x.a, .int .i64 x.b, .nils]), (1, [.int .i64 q.person, .int .i64 q.device, .int .i64 q.program, .int .i64 q.action, .int .i64 q.object, .int .i64 q.now])], nx := 4, nt := 152 })
        (fun _ _ => True) () ?_ ?_ (by simp; omega) trivial ?_) ?_
      · intro _ _
        rw [List.length_range]
        have hx1 : ¬ (q.now + ((N + 1 : Nat) : Int) ≤ q.now + (N : Nat)) := by omega
        have hw1 : IntKind.i64.wrap (q.now + (N : Nat) + 1) = q.now + ((N + 1 : Nat) : Int) := by rw [IntWalk.i64_in _ (by omega)]; omega
        have d3 := c3 (atTime q (q.now + ((N + 1 : Nat) : Int)))
        have d4 := c3 q
        have d13 := c13 (q.now + ((N + 1 : Nat) : Int))
        simp -implicitDefEqProofs only [enc_atTime] at d3
        simp -implicitDefEqProofs only [enc_Request] at d4
        have g1 : decide (q.now + (N : Nat) ≥ q.now) = true := decide_eq_true (by omega)
        have g2 : decide (q.now + (N : Nat) ≤ q.now + m) = true := decide_eq_true (by omega)
        cases e3 : q.now + (N : Nat) == q.now + m
        · cases e4 : q.now + (N : Nat) == 10000
          · have hne : (evalAt l s (atTime q (q.now + ((N + 1 : Nat) : Int))) x != evalAt l s q x) = true := by
              unfold bne
              rw [hend (decide_eq_false (by simpa using e3)) hNm.1 (decide_eq_false (by simpa using e4)) hNm.2]; rfl
            generalize evalAt l s (atTime q (q.now + ((N + 1 : Nat) : Int))) x = b1 at d3 hne
            generalize evalAt l s q x = b2 at d4 hne
            simp -implicitDefEqProofs only [QS, QN, QG, QO, ZRS, ↓ZDS, ZRG, ↓ZDG, ZRO, ↓ZDO, hx1, hw, hw1, g1, g2, e3, e4, d3, d4, d13, scals_Fact, shuts_Fact, tscals_Includes, shuts_Includes, plan_3_19, plan_3_21, SO, SH, evAppend, rowOf, noref, isRef, isPtr, noPtr, isBad, AV.isUndef, leaf_some, isNormal, ifEv_bool, gate_bool, gateP_bool, gateQ_bool, pick_bool, SN, evCutRow, Int.reduceToNat, id_eq, Int.reduceBEq, Int.reduceLE, Int.reduceLT, SS, one_ne2, num_ne2, TIS, MDS, AV.cells, AV.isCell, Value.cells, Nat.reduceAdd, Nat.reduceEqDiff, Nat.reduceLT, Nat.reduceLeDiff, Nat.reduceMul, Nat.reduceSub, reduceIte]
            rw [show (!(b1 == b2)) = true from hne]
          ·
            simp -implicitDefEqProofs only [QS, QN, QG, QO, ZRS, ↓ZDS, ZRG, ↓ZDG, ZRO, ↓ZDO, hx1, hw, hw1, g1, g2, e3, e4, scals_Fact, shuts_Fact, tscals_Includes, shuts_Includes, plan_3_19, plan_3_21, SO, SH, evAppend, rowOf, noref, isRef, isPtr, noPtr, isBad, AV.isUndef, leaf_some, isNormal, ifEv_bool, gate_bool, gateP_bool, gateQ_bool, pick_bool, SN, evCutRow, Int.reduceToNat, id_eq, Int.reduceBEq, Int.reduceLE, Int.reduceLT, SS, one_ne2, num_ne2, TIS, MDS, AV.cells, AV.isCell, Value.cells, Nat.reduceAdd, Nat.reduceEqDiff, Nat.reduceLT, Nat.reduceLeDiff, Nat.reduceMul, Nat.reduceSub, reduceIte]
            try trace_state
        ·
          simp -implicitDefEqProofs only [QS, QN, QG, QO, ZRS, ↓ZDS, ZRG, ↓ZDG, ZRO, ↓ZDO, hx1, hw, hw1, g1, g2, e3, scals_Fact, shuts_Fact, tscals_Includes, shuts_Includes, plan_3_19, plan_3_21, SO, SH, evAppend, rowOf, noref, isRef, isPtr, noPtr, isBad, AV.isUndef, leaf_some, isNormal, ifEv_bool, gate_bool, gateP_bool, gateQ_bool, pick_bool, SN, evCutRow, Int.reduceToNat, id_eq, Int.reduceBEq, Int.reduceLE, Int.reduceLT, SS, one_ne2, num_ne2, TIS, MDS, AV.cells, AV.isCell, Value.cells, Nat.reduceAdd, Nat.reduceEqDiff, Nat.reduceLT, Nat.reduceLeDiff, Nat.reduceMul, Nat.reduceSub, reduceIte]
          try trace_state
      · intro pre z r' _ hs' _
        have hp5 : pre.length ≤ N := by have := congrArg List.length hs'; simp at this; omega
        clear hs'
        have hx1 : q.now + (pre.length : Nat) ≤ q.now + (N : Nat) := by omega
        have hw1 : IntKind.i64.wrap (q.now + (pre.length : Nat) + 1) = q.now + ((pre.length + 1 : Nat) : Int) := by rw [IntWalk.i64_in _ (by omega)]; omega
        have d3 := c3 (atTime q (q.now + (pre.length : Nat)))
        have d4 := c3 q
        have d13 := c13 (q.now + (pre.length : Nat))
        rw [hall _ hp5] at d3
        simp -implicitDefEqProofs only [enc_atTime] at d3
        simp -implicitDefEqProofs only [enc_Request] at d4
        generalize evalAt l s q x = b2 at d3 d4
        simp -implicitDefEqProofs only [QS, QN, QG, QO, ZRS, ↓ZDS, ZRG, ↓ZDG, ZRO, ↓ZDO, hx1, hw1, d3, d4, d13, goStep, bne_self_eq_false, scals_Fact, shuts_Fact, tscals_Includes, shuts_Includes, plan_3_19, plan_3_21, SO, SH, evAppend, rowOf, noref, isRef, isPtr, noPtr, isBad, AV.isUndef, keep_3_17, leaf_some, isNormal, ifEv_bool, gate_bool, gateP_bool, gateQ_bool, pick_bool, SN, evCutRow, Int.reduceToNat, id_eq, Int.reduceBEq, Int.reduceLE, Int.reduceLT, SS, one_ne2, num_ne2, TIS, MDS, AV.cells, AV.isCell, Value.cells, Nat.reduceAdd, Nat.reduceEqDiff, Nat.reduceLT, Nat.reduceLeDiff, Nat.reduceMul, Nat.reduceSub, reduceIte]
        try trace_state
      · simp -implicitDefEqProofs only [firstRegion]
        rw [keep_3_17]
        have hz : q.now + ((0 : Nat) : Int) = q.now := Int.add_zero _
        rw [hz]
        simp -implicitDefEqProofs only [QS, QN, QG, QO, ZRS, ↓ZDS, ZRG, ↓ZDG, ZRO, ↓ZDO, SN, evCutRow, Int.reduceToNat, id_eq, Int.reduceBEq, Int.reduceLE, Int.reduceLT, SO, SH, evAppend, rowOf, noref, isRef, isPtr, noPtr, isBad, AV.isUndef, SS, one_ne2, num_ne2, TIS, MDS, AV.cells, AV.isCell, Value.cells, Nat.reduceAdd, Nat.reduceEqDiff, Nat.reduceLT, Nat.reduceLeDiff, Nat.reduceMul, Nat.reduceSub, reduceIte]
        try trace_state
      · rfl
    · rw [hb hc2] at c6 c14
      simp -implicitDefEqProofs only [h0, List.map_nil] at c3 c4 c6 c7 c8 c9 c10 c11 c14
      have hT : T = q.now := hoff (by rw [hr1]; rfl)
      rw [hT] at c11
      simp -implicitDefEqProofs only [QS, QN, QG, QO, ZRS, ↓ZDS, ZRG, ↓ZDG, ZRO, ↓ZDO, Go.Proofs.Tryz.f3, c0, c1, c2, c4, c5, c6, c7, c8, c9, c10, c11, c12, c14, bne_self_eq_false, Bool.not_beq_self, scals_ints, scals_Fact, shuts_Fact, tscals_Includes, shuts_Includes, ifEv_bool, gate_bool, pick_bool, plan_3_19, plan_3_21, SO, SH, evAppend, rowOf, noref, isRef, isPtr, noPtr, isBad, AV.isUndef, SN, evCutRow, Int.reduceToNat, id_eq, Int.reduceBEq, Int.reduceLE, Int.reduceLT, SS, one_ne2, num_ne2, TIS, MDS, AV.cells, AV.isCell, Value.cells, Nat.reduceAdd, Nat.reduceEqDiff, Nat.reduceLT, Nat.reduceLeDiff, Nat.reduceMul, Nat.reduceSub, reduceIte]
      try trace_state
    · rw [hb hc2] at c6 c14
      simp -implicitDefEqProofs only [h0, List.map_nil] at c3 c4 c6 c7 c8 c9 c10 c11 c14
      have hT : T = q.now := hoff (by rw [decide_eq_false hr2]; simp)
      rw [hT] at c11
      simp -implicitDefEqProofs only [QS, QN, QG, QO, ZRS, ↓ZDS, ZRG, ↓ZDG, ZRO, ↓ZDO, Go.Proofs.Tryz.f3, c0, c1, c2, c4, c5, c6, c7, c8, c9, c10, c11, c12, c14, decide_eq_false hr2, show decide (m ≥ 0) = false from decide_eq_false hr2, bne_self_eq_false, Bool.not_beq_self, scals_ints, scals_Fact, shuts_Fact, tscals_Includes, shuts_Includes, ifEv_bool, gate_bool, pick_bool, plan_3_19, plan_3_21, SO, SH, evAppend, rowOf, noref, isRef, isPtr, noPtr, isBad, AV.isUndef, SN, evCutRow, Int.reduceToNat, id_eq, Int.reduceBEq, Int.reduceLE, Int.reduceLT, SS, one_ne2, num_ne2, TIS, MDS, AV.cells, AV.isCell, Value.cells, Nat.reduceAdd, Nat.reduceEqDiff, Nat.reduceLT, Nat.reduceLeDiff, Nat.reduceMul, Nat.reduceSub, reduceIte]
      try trace_state
    · rw [hb hc2] at c6 c14
      simp -implicitDefEqProofs only [h0, List.map_nil] at c3 c4 c6 c7 c8 c9 c10 c11 c14
      have hT : T = q.now := hoff (by rw [decide_eq_false hr3]; simp)
      rw [hT] at c11
      simp -implicitDefEqProofs only [QS, QN, QG, QO, ZRS, ↓ZDS, ZRG, ↓ZDG, ZRO, ↓ZDO, Go.Proofs.Tryz.f3, c0, c1, c2, c4, c5, c6, c7, c8, c9, c10, c11, c12, c14, decide_eq_true hr2, show decide (m ≥ 0) = true from decide_eq_true hr2, decide_eq_false hr3, bne_self_eq_false, Bool.not_beq_self, scals_ints, scals_Fact, shuts_Fact, tscals_Includes, shuts_Includes, ifEv_bool, gate_bool, pick_bool, plan_3_19, plan_3_21, SO, SH, evAppend, rowOf, noref, isRef, isPtr, noPtr, isBad, AV.isUndef, SN, evCutRow, Int.reduceToNat, id_eq, Int.reduceBEq, Int.reduceLE, Int.reduceLT, SS, one_ne2, num_ne2, TIS, MDS, AV.cells, AV.isCell, Value.cells, Nat.reduceAdd, Nat.reduceEqDiff, Nat.reduceLT, Nat.reduceLeDiff, Nat.reduceMul, Nat.reduceSub, reduceIte]
      try trace_state
    · rw [hb hc2] at c6 c14
      simp -implicitDefEqProofs only [h0, List.map_nil] at c3 c4 c6 c7 c8 c9 c10 c11 c14
      simp -implicitDefEqProofs only [QS, QN, QG, QO, ZRS, ↓ZDS, ZRG, ↓ZDG, ZRO, ↓ZDO, Go.Proofs.Tryz.f3, c0, c1, c2, c4, c5, c6, c7, c8, c9, c10, c11, c12, c14, decide_eq_true hr2, show decide (m ≥ 0) = true from decide_eq_true hr2, decide_eq_true hr3, bne_self_eq_false, Bool.not_beq_self, scals_ints, scals_Fact, shuts_Fact, tscals_Includes, shuts_Includes, ifEv_bool, gate_bool, pick_bool, plan_3_19, plan_3_21, SO, SH, evAppend, rowOf, noref, isRef, isPtr, noPtr, isBad, AV.isUndef, SN, evCutRow, Int.reduceToNat, id_eq, Int.reduceBEq, Int.reduceLE, Int.reduceLT, SS, one_ne2, num_ne2, TIS, MDS, AV.cells, AV.isCell, Value.cells, Nat.reduceAdd, Nat.reduceEqDiff, Nat.reduceLT, Nat.reduceLeDiff, Nat.reduceMul, Nat.reduceSub, reduceIte]
      obtain ⟨hN, hE⟩ := lead_same (l := l) (s := s) (x := x) (q := q) (most := m) hr3
      have hL : ∀ j, j < lead (sameAt l s x q m) 61 0 → sameAt l s x q m j = true := fun j hj => lead_lt _ 61 0 j (by omega) hj
      have hTe := hon hr1 hr2 hr3
      generalize lead (sameAt l s x q m) 61 0 = N at hN hE hL hTe
      have hall := until_same hL
      have hNm : q.now + (N : Nat) ≤ q.now + m ∧ q.now + (N : Nat) ≤ 10000 := by
        have hn0 := isRequest_now hr1
        cases N with
        | zero => omega
        | succ j =>
          have := hL j (by omega)
          unfold sameAt at this
          simp -implicitDefEqProofs only [Bool.and_eq_true, decide_eq_true_eq] at this
          omega
      have hend := until_end hE
      have hn0 := isRequest_now hr1
      have hw : IntKind.i64.wrap (q.now + m) = q.now + m := IntWalk.i64_in _ (by omega)
      rw [hTe]
      clear c0 c1 c2 c4 c5 c6 c7 c8 c9 c10 c11 c14 hn hb hnx hon hoff hul hol hnw hE hL hfit
      rw [ev_loop]
      refine Eq.trans (loop_list (Q := fun (_ : Unit) z => thenEnd E.P [] _ 0 (thenEv E _ _ _ _ _ (thenEv E _ _ _ _ _ (outOf 0 z))) = some (.bool true, [])) (List.range (N + 1)) goStep id
        (fun i _ => { sl := [(10, .own 0 false 125 2 (l.map (Includes.enc true))), (11, .own 1 false 74 6 (s.map (Fact.enc true))), (12, .ptr 0 0), (13, .ptr 1 0), (14, .int .i64 m), (15, .int .i64 (q.now + (N : Nat))), (16, .int .i64 (q.now + (i : Nat)))],
                      bx := [(0, [.int .i64 x.op, .int .i64 x.a, .int .i64 x.b, .nils]), (1, [.int .i64 q.person, .int .i64 q.device, .int .i64 q.program, .int .i64 q.action, .int .i64 q.object, .int .i64 q.now])], nx := 4, nt := 152 })
        (fun _ _ => True) () ?_ ?_ (by simp; omega) trivial ?_) ?_
      · intro _ _
        rw [List.length_range]
        have hx1 : ¬ (q.now + ((N + 1 : Nat) : Int) ≤ q.now + (N : Nat)) := by omega
        have hw1 : IntKind.i64.wrap (q.now + (N : Nat) + 1) = q.now + ((N + 1 : Nat) : Int) := by rw [IntWalk.i64_in _ (by omega)]; omega
        have d3 := c3 (atTime q (q.now + ((N + 1 : Nat) : Int)))
        have d4 := c3 q
        have d13 := c13 (q.now + ((N + 1 : Nat) : Int))
        simp -implicitDefEqProofs only [enc_atTime] at d3
        simp -implicitDefEqProofs only [enc_Request] at d4
        have g1 : decide (q.now + (N : Nat) ≥ q.now) = true := decide_eq_true (by omega)
        have g2 : decide (q.now + (N : Nat) ≤ q.now + m) = true := decide_eq_true (by omega)
        cases e3 : q.now + (N : Nat) == q.now + m
        · cases e4 : q.now + (N : Nat) == 10000
          · have hne : (evalAt l s (atTime q (q.now + ((N + 1 : Nat) : Int))) x != evalAt l s q x) = true := by
              unfold bne
              rw [hend (decide_eq_false (by simpa using e3)) hNm.1 (decide_eq_false (by simpa using e4)) hNm.2]; rfl
            generalize evalAt l s (atTime q (q.now + ((N + 1 : Nat) : Int))) x = b1 at d3 hne
            generalize evalAt l s q x = b2 at d4 hne
            simp -implicitDefEqProofs only [QS, QN, QG, QO, ZRS, ↓ZDS, ZRG, ↓ZDG, ZRO, ↓ZDO, hx1, hw, hw1, g1, g2, e3, e4, d3, d4, d13, scals_Fact, shuts_Fact, tscals_Includes, shuts_Includes, plan_3_19, plan_3_21, SO, SH, evAppend, rowOf, noref, isRef, isPtr, noPtr, isBad, AV.isUndef, leaf_some, isNormal, ifEv_bool, gate_bool, gateP_bool, gateQ_bool, pick_bool, SN, evCutRow, Int.reduceToNat, id_eq, Int.reduceBEq, Int.reduceLE, Int.reduceLT, SS, one_ne2, num_ne2, TIS, MDS, AV.cells, AV.isCell, Value.cells, Nat.reduceAdd, Nat.reduceEqDiff, Nat.reduceLT, Nat.reduceLeDiff, Nat.reduceMul, Nat.reduceSub, reduceIte]
            rw [show (!(b1 == b2)) = true from hne]
          ·
            simp -implicitDefEqProofs only [QS, QN, QG, QO, ZRS, ↓ZDS, ZRG, ↓ZDG, ZRO, ↓ZDO, hx1, hw, hw1, g1, g2, e3, e4, scals_Fact, shuts_Fact, tscals_Includes, shuts_Includes, plan_3_19, plan_3_21, SO, SH, evAppend, rowOf, noref, isRef, isPtr, noPtr, isBad, AV.isUndef, leaf_some, isNormal, ifEv_bool, gate_bool, gateP_bool, gateQ_bool, pick_bool, SN, evCutRow, Int.reduceToNat, id_eq, Int.reduceBEq, Int.reduceLE, Int.reduceLT, SS, one_ne2, num_ne2, TIS, MDS, AV.cells, AV.isCell, Value.cells, Nat.reduceAdd, Nat.reduceEqDiff, Nat.reduceLT, Nat.reduceLeDiff, Nat.reduceMul, Nat.reduceSub, reduceIte]
            try trace_state
        ·
          simp -implicitDefEqProofs only [QS, QN, QG, QO, ZRS, ↓ZDS, ZRG, ↓ZDG, ZRO, ↓ZDO, hx1, hw, hw1, g1, g2, e3, scals_Fact, shuts_Fact, tscals_Includes, shuts_Includes, plan_3_19, plan_3_21, SO, SH, evAppend, rowOf, noref, isRef, isPtr, noPtr, isBad, AV.isUndef, leaf_some, isNormal, ifEv_bool, gate_bool, gateP_bool, gateQ_bool, pick_bool, SN, evCutRow, Int.reduceToNat, id_eq, Int.reduceBEq, Int.reduceLE, Int.reduceLT, SS, one_ne2, num_ne2, TIS, MDS, AV.cells, AV.isCell, Value.cells, Nat.reduceAdd, Nat.reduceEqDiff, Nat.reduceLT, Nat.reduceLeDiff, Nat.reduceMul, Nat.reduceSub, reduceIte]
          try trace_state
      · intro pre z r' _ hs' _
        have hp5 : pre.length ≤ N := by have := congrArg List.length hs'; simp at this; omega
        clear hs'
        have hx1 : q.now + (pre.length : Nat) ≤ q.now + (N : Nat) := by omega
        have hw1 : IntKind.i64.wrap (q.now + (pre.length : Nat) + 1) = q.now + ((pre.length + 1 : Nat) : Int) := by rw [IntWalk.i64_in _ (by omega)]; omega
        have d3 := c3 (atTime q (q.now + (pre.length : Nat)))
        have d4 := c3 q
        have d13 := c13 (q.now + (pre.length : Nat))
        rw [hall _ hp5] at d3
        simp -implicitDefEqProofs only [enc_atTime] at d3
        simp -implicitDefEqProofs only [enc_Request] at d4
        generalize evalAt l s q x = b2 at d3 d4
        simp -implicitDefEqProofs only [QS, QN, QG, QO, ZRS, ↓ZDS, ZRG, ↓ZDG, ZRO, ↓ZDO, hx1, hw1, d3, d4, d13, goStep, bne_self_eq_false, scals_Fact, shuts_Fact, tscals_Includes, shuts_Includes, plan_3_19, plan_3_21, SO, SH, evAppend, rowOf, noref, isRef, isPtr, noPtr, isBad, AV.isUndef, keep_3_17, leaf_some, isNormal, ifEv_bool, gate_bool, gateP_bool, gateQ_bool, pick_bool, SN, evCutRow, Int.reduceToNat, id_eq, Int.reduceBEq, Int.reduceLE, Int.reduceLT, SS, one_ne2, num_ne2, TIS, MDS, AV.cells, AV.isCell, Value.cells, Nat.reduceAdd, Nat.reduceEqDiff, Nat.reduceLT, Nat.reduceLeDiff, Nat.reduceMul, Nat.reduceSub, reduceIte]
        try trace_state
      · simp -implicitDefEqProofs only [firstRegion]
        rw [keep_3_17]
        have hz : q.now + ((0 : Nat) : Int) = q.now := Int.add_zero _
        rw [hz]
        simp -implicitDefEqProofs only [QS, QN, QG, QO, ZRS, ↓ZDS, ZRG, ↓ZDG, ZRO, ↓ZDO, SN, evCutRow, Int.reduceToNat, id_eq, Int.reduceBEq, Int.reduceLE, Int.reduceLT, SO, SH, evAppend, rowOf, noref, isRef, isPtr, noPtr, isBad, AV.isUndef, SS, one_ne2, num_ne2, TIS, MDS, AV.cells, AV.isCell, Value.cells, Nat.reduceAdd, Nat.reduceEqDiff, Nat.reduceLT, Nat.reduceLeDiff, Nat.reduceMul, Nat.reduceSub, reduceIte]
        try trace_state
      · rfl
    · rw [hn hc1] at c9
      have hscl := scal_slc h0
      have hT : T = q.now := hoff (by rw [hr1]; rfl)
      rw [hT] at c11
      simp -implicitDefEqProofs only [QS, QN, QG, QO, ZRS, ↓ZDS, ZRG, ↓ZDG, ZRO, ↓ZDO, Go.Proofs.Tryz.f3, c0, c1, c2, c4, c5, c6, c7, c8, c9, c10, c11, c12, c14, bne_self_eq_false, Bool.not_beq_self, scals_ints, hscl, after_refF, shuts_Cond, scals_Fact, shuts_Fact, tscals_Includes, shuts_Includes, ifEv_bool, gate_bool, pick_bool, plan_3_19, plan_3_21, SO, SH, evAppend, rowOf, noref, isRef, isPtr, noPtr, isBad, AV.isUndef, SN, evCutRow, Int.reduceToNat, id_eq, Int.reduceBEq, Int.reduceLE, Int.reduceLT, SS, one_ne2, num_ne2, TIS, MDS, AV.cells, AV.isCell, Value.cells, Nat.reduceAdd, Nat.reduceEqDiff, Nat.reduceLT, Nat.reduceLeDiff, Nat.reduceMul, Nat.reduceSub, reduceIte]
      try trace_state
    · rw [hn hc1] at c9
      have hscl := scal_slc h0
      have hT : T = q.now := hoff (by rw [decide_eq_false hr2]; simp)
      rw [hT] at c11
      simp -implicitDefEqProofs only [QS, QN, QG, QO, ZRS, ↓ZDS, ZRG, ↓ZDG, ZRO, ↓ZDO, Go.Proofs.Tryz.f3, c0, c1, c2, c4, c5, c6, c7, c8, c9, c10, c11, c12, c14, decide_eq_false hr2, show decide (m ≥ 0) = false from decide_eq_false hr2, bne_self_eq_false, Bool.not_beq_self, scals_ints, hscl, after_refF, shuts_Cond, scals_Fact, shuts_Fact, tscals_Includes, shuts_Includes, ifEv_bool, gate_bool, pick_bool, plan_3_19, plan_3_21, SO, SH, evAppend, rowOf, noref, isRef, isPtr, noPtr, isBad, AV.isUndef, SN, evCutRow, Int.reduceToNat, id_eq, Int.reduceBEq, Int.reduceLE, Int.reduceLT, SS, one_ne2, num_ne2, TIS, MDS, AV.cells, AV.isCell, Value.cells, Nat.reduceAdd, Nat.reduceEqDiff, Nat.reduceLT, Nat.reduceLeDiff, Nat.reduceMul, Nat.reduceSub, reduceIte]
      try trace_state
    · rw [hn hc1] at c9
      have hscl := scal_slc h0
      have hT : T = q.now := hoff (by rw [decide_eq_false hr3]; simp)
      rw [hT] at c11
      simp -implicitDefEqProofs only [QS, QN, QG, QO, ZRS, ↓ZDS, ZRG, ↓ZDG, ZRO, ↓ZDO, Go.Proofs.Tryz.f3, c0, c1, c2, c4, c5, c6, c7, c8, c9, c10, c11, c12, c14, decide_eq_true hr2, show decide (m ≥ 0) = true from decide_eq_true hr2, decide_eq_false hr3, bne_self_eq_false, Bool.not_beq_self, scals_ints, hscl, after_refF, shuts_Cond, scals_Fact, shuts_Fact, tscals_Includes, shuts_Includes, ifEv_bool, gate_bool, pick_bool, plan_3_19, plan_3_21, SO, SH, evAppend, rowOf, noref, isRef, isPtr, noPtr, isBad, AV.isUndef, SN, evCutRow, Int.reduceToNat, id_eq, Int.reduceBEq, Int.reduceLE, Int.reduceLT, SS, one_ne2, num_ne2, TIS, MDS, AV.cells, AV.isCell, Value.cells, Nat.reduceAdd, Nat.reduceEqDiff, Nat.reduceLT, Nat.reduceLeDiff, Nat.reduceMul, Nat.reduceSub, reduceIte]
      try trace_state
    · rw [hn hc1] at c9
      have hscl := scal_slc h0
      simp -implicitDefEqProofs only [QS, QN, QG, QO, ZRS, ↓ZDS, ZRG, ↓ZDG, ZRO, ↓ZDO, Go.Proofs.Tryz.f3, c0, c1, c2, c4, c5, c6, c7, c8, c9, c10, c11, c12, c14, decide_eq_true hr2, show decide (m ≥ 0) = true from decide_eq_true hr2, decide_eq_true hr3, bne_self_eq_false, Bool.not_beq_self, scals_ints, hscl, after_refF, shuts_Cond, scals_Fact, shuts_Fact, tscals_Includes, shuts_Includes, ifEv_bool, gate_bool, pick_bool, plan_3_19, plan_3_21, SO, SH, evAppend, rowOf, noref, isRef, isPtr, noPtr, isBad, AV.isUndef, SN, evCutRow, Int.reduceToNat, id_eq, Int.reduceBEq, Int.reduceLE, Int.reduceLT, SS, one_ne2, num_ne2, TIS, MDS, AV.cells, AV.isCell, Value.cells, Nat.reduceAdd, Nat.reduceEqDiff, Nat.reduceLT, Nat.reduceLeDiff, Nat.reduceMul, Nat.reduceSub, reduceIte]
      obtain ⟨hN, hE⟩ := lead_same (l := l) (s := s) (x := x) (q := q) (most := m) hr3
      have hL : ∀ j, j < lead (sameAt l s x q m) 61 0 → sameAt l s x q m j = true := fun j hj => lead_lt _ 61 0 j (by omega) hj
      have hTe := hon hr1 hr2 hr3
      generalize lead (sameAt l s x q m) 61 0 = N at hN hE hL hTe
      have hall := until_same hL
      have hNm : q.now + (N : Nat) ≤ q.now + m ∧ q.now + (N : Nat) ≤ 10000 := by
        have hn0 := isRequest_now hr1
        cases N with
        | zero => omega
        | succ j =>
          have := hL j (by omega)
          unfold sameAt at this
          simp -implicitDefEqProofs only [Bool.and_eq_true, decide_eq_true_eq] at this
          omega
      have hend := until_end hE
      have hn0 := isRequest_now hr1
      have hw : IntKind.i64.wrap (q.now + m) = q.now + m := IntWalk.i64_in _ (by omega)
      rw [hTe]
      clear c0 c1 c2 c4 c5 c6 c7 c8 c9 c10 c11 c14 hn hb hnx hon hoff hul hol hnw hE hL hfit
      rw [ev_loop]
      refine Eq.trans (loop_list (Q := fun (_ : Unit) z => thenEnd E.P [] _ 0 (thenEv E _ _ _ _ _ (thenEv E _ _ _ _ _ (outOf 0 z))) = some (.bool true, [])) (List.range (N + 1)) goStep id
        (fun i _ => { sl := [(10, .own 0 false 125 2 (l.map (Includes.enc true))), (11, .own 1 false 74 6 (s.map (Fact.enc true))), (12, .ptr 0 0), (13, .ptr 1 0), (14, .int .i64 m), (15, .int .i64 (q.now + (N : Nat))), (16, .int .i64 (q.now + (i : Nat)))],
                      bx := [(0, [.int .i64 x.op, .int .i64 x.a, .int .i64 x.b, .own 2 false 28 4 (x.args.map (Cond.enc true))]), (1, [.int .i64 q.person, .int .i64 q.device, .int .i64 q.program, .int .i64 q.action, .int .i64 q.object, .int .i64 q.now])], nx := 5, nt := 152 })
        (fun _ _ => True) () ?_ ?_ (by simp; omega) trivial ?_) ?_
      · intro _ _
        rw [List.length_range]
        have hx1 : ¬ (q.now + ((N + 1 : Nat) : Int) ≤ q.now + (N : Nat)) := by omega
        have hw1 : IntKind.i64.wrap (q.now + (N : Nat) + 1) = q.now + ((N + 1 : Nat) : Int) := by rw [IntWalk.i64_in _ (by omega)]; omega
        have d3 := c3 (atTime q (q.now + ((N + 1 : Nat) : Int)))
        have d4 := c3 q
        have d13 := c13 (q.now + ((N + 1 : Nat) : Int))
        simp -implicitDefEqProofs only [enc_atTime] at d3
        simp -implicitDefEqProofs only [enc_Request] at d4
        have g1 : decide (q.now + (N : Nat) ≥ q.now) = true := decide_eq_true (by omega)
        have g2 : decide (q.now + (N : Nat) ≤ q.now + m) = true := decide_eq_true (by omega)
        cases e3 : q.now + (N : Nat) == q.now + m
        · cases e4 : q.now + (N : Nat) == 10000
          · have hne : (evalAt l s (atTime q (q.now + ((N + 1 : Nat) : Int))) x != evalAt l s q x) = true := by
              unfold bne
              rw [hend (decide_eq_false (by simpa using e3)) hNm.1 (decide_eq_false (by simpa using e4)) hNm.2]; rfl
            generalize evalAt l s (atTime q (q.now + ((N + 1 : Nat) : Int))) x = b1 at d3 hne
            generalize evalAt l s q x = b2 at d4 hne
            simp -implicitDefEqProofs only [QS, QN, QG, QO, ZRS, ↓ZDS, ZRG, ↓ZDG, ZRO, ↓ZDO, hx1, hw, hw1, g1, g2, e3, e4, d3, d4, d13, scals_Fact, shuts_Fact, tscals_Includes, shuts_Includes, plan_3_19, plan_3_21, SO, SH, evAppend, rowOf, noref, isRef, isPtr, noPtr, isBad, AV.isUndef, leaf_some, isNormal, ifEv_bool, gate_bool, gateP_bool, gateQ_bool, pick_bool, SN, evCutRow, Int.reduceToNat, id_eq, Int.reduceBEq, Int.reduceLE, Int.reduceLT, SS, one_ne2, num_ne2, TIS, MDS, AV.cells, AV.isCell, Value.cells, Nat.reduceAdd, Nat.reduceEqDiff, Nat.reduceLT, Nat.reduceLeDiff, Nat.reduceMul, Nat.reduceSub, reduceIte]
            rw [show (!(b1 == b2)) = true from hne]
          ·
            simp -implicitDefEqProofs only [QS, QN, QG, QO, ZRS, ↓ZDS, ZRG, ↓ZDG, ZRO, ↓ZDO, hx1, hw, hw1, g1, g2, e3, e4, scals_Fact, shuts_Fact, tscals_Includes, shuts_Includes, plan_3_19, plan_3_21, SO, SH, evAppend, rowOf, noref, isRef, isPtr, noPtr, isBad, AV.isUndef, leaf_some, isNormal, ifEv_bool, gate_bool, gateP_bool, gateQ_bool, pick_bool, SN, evCutRow, Int.reduceToNat, id_eq, Int.reduceBEq, Int.reduceLE, Int.reduceLT, SS, one_ne2, num_ne2, TIS, MDS, AV.cells, AV.isCell, Value.cells, Nat.reduceAdd, Nat.reduceEqDiff, Nat.reduceLT, Nat.reduceLeDiff, Nat.reduceMul, Nat.reduceSub, reduceIte]
            try trace_state
        ·
          simp -implicitDefEqProofs only [QS, QN, QG, QO, ZRS, ↓ZDS, ZRG, ↓ZDG, ZRO, ↓ZDO, hx1, hw, hw1, g1, g2, e3, scals_Fact, shuts_Fact, tscals_Includes, shuts_Includes, plan_3_19, plan_3_21, SO, SH, evAppend, rowOf, noref, isRef, isPtr, noPtr, isBad, AV.isUndef, leaf_some, isNormal, ifEv_bool, gate_bool, gateP_bool, gateQ_bool, pick_bool, SN, evCutRow, Int.reduceToNat, id_eq, Int.reduceBEq, Int.reduceLE, Int.reduceLT, SS, one_ne2, num_ne2, TIS, MDS, AV.cells, AV.isCell, Value.cells, Nat.reduceAdd, Nat.reduceEqDiff, Nat.reduceLT, Nat.reduceLeDiff, Nat.reduceMul, Nat.reduceSub, reduceIte]
          try trace_state
      · intro pre z r' _ hs' _
        have hp5 : pre.length ≤ N := by have := congrArg List.length hs'; simp at this; omega
        clear hs'
        have hx1 : q.now + (pre.length : Nat) ≤ q.now + (N : Nat) := by omega
        have hw1 : IntKind.i64.wrap (q.now + (pre.length : Nat) + 1) = q.now + ((pre.length + 1 : Nat) : Int) := by rw [IntWalk.i64_in _ (by omega)]; omega
        have d3 := c3 (atTime q (q.now + (pre.length : Nat)))
        have d4 := c3 q
        have d13 := c13 (q.now + (pre.length : Nat))
        rw [hall _ hp5] at d3
        simp -implicitDefEqProofs only [enc_atTime] at d3
        simp -implicitDefEqProofs only [enc_Request] at d4
        generalize evalAt l s q x = b2 at d3 d4
        simp -implicitDefEqProofs only [QS, QN, QG, QO, ZRS, ↓ZDS, ZRG, ↓ZDG, ZRO, ↓ZDO, hx1, hw1, d3, d4, d13, goStep, bne_self_eq_false, scals_Fact, shuts_Fact, tscals_Includes, shuts_Includes, plan_3_19, plan_3_21, SO, SH, evAppend, rowOf, noref, isRef, isPtr, noPtr, isBad, AV.isUndef, keep_3_17, leaf_some, isNormal, ifEv_bool, gate_bool, gateP_bool, gateQ_bool, pick_bool, SN, evCutRow, Int.reduceToNat, id_eq, Int.reduceBEq, Int.reduceLE, Int.reduceLT, SS, one_ne2, num_ne2, TIS, MDS, AV.cells, AV.isCell, Value.cells, Nat.reduceAdd, Nat.reduceEqDiff, Nat.reduceLT, Nat.reduceLeDiff, Nat.reduceMul, Nat.reduceSub, reduceIte]
        try trace_state
      · simp -implicitDefEqProofs only [firstRegion]
        rw [keep_3_17]
        have hz : q.now + ((0 : Nat) : Int) = q.now := Int.add_zero _
        rw [hz]
        simp -implicitDefEqProofs only [QS, QN, QG, QO, ZRS, ↓ZDS, ZRG, ↓ZDG, ZRO, ↓ZDO, SN, evCutRow, Int.reduceToNat, id_eq, Int.reduceBEq, Int.reduceLE, Int.reduceLT, SO, SH, evAppend, rowOf, noref, isRef, isPtr, noPtr, isBad, AV.isUndef, SS, one_ne2, num_ne2, TIS, MDS, AV.cells, AV.isCell, Value.cells, Nat.reduceAdd, Nat.reduceEqDiff, Nat.reduceLT, Nat.reduceLeDiff, Nat.reduceMul, Nat.reduceSub, reduceIte]
        try trace_state
      · rfl
    · have hscl := scal_slc h0
      have hT : T = q.now := hoff (by rw [hr1]; rfl)
      rw [hT] at c11
      simp -implicitDefEqProofs only [QS, QN, QG, QO, ZRS, ↓ZDS, ZRG, ↓ZDG, ZRO, ↓ZDO, Go.Proofs.Tryz.f3, c0, c1, c2, c4, c5, c6, c7, c8, c9, c10, c11, c12, c14, bne_self_eq_false, Bool.not_beq_self, scals_ints, hscl, after_refF, shuts_Cond, scals_Fact, shuts_Fact, tscals_Includes, shuts_Includes, ifEv_bool, gate_bool, pick_bool, plan_3_19, plan_3_21, SO, SH, evAppend, rowOf, noref, isRef, isPtr, noPtr, isBad, AV.isUndef, SN, evCutRow, Int.reduceToNat, id_eq, Int.reduceBEq, Int.reduceLE, Int.reduceLT, SS, one_ne2, num_ne2, TIS, MDS, AV.cells, AV.isCell, Value.cells, Nat.reduceAdd, Nat.reduceEqDiff, Nat.reduceLT, Nat.reduceLeDiff, Nat.reduceMul, Nat.reduceSub, reduceIte]
      try trace_state
    · have hscl := scal_slc h0
      have hT : T = q.now := hoff (by rw [decide_eq_false hr2]; simp)
      rw [hT] at c11
      simp -implicitDefEqProofs only [QS, QN, QG, QO, ZRS, ↓ZDS, ZRG, ↓ZDG, ZRO, ↓ZDO, Go.Proofs.Tryz.f3, c0, c1, c2, c4, c5, c6, c7, c8, c9, c10, c11, c12, c14, decide_eq_false hr2, show decide (m ≥ 0) = false from decide_eq_false hr2, bne_self_eq_false, Bool.not_beq_self, scals_ints, hscl, after_refF, shuts_Cond, scals_Fact, shuts_Fact, tscals_Includes, shuts_Includes, ifEv_bool, gate_bool, pick_bool, plan_3_19, plan_3_21, SO, SH, evAppend, rowOf, noref, isRef, isPtr, noPtr, isBad, AV.isUndef, SN, evCutRow, Int.reduceToNat, id_eq, Int.reduceBEq, Int.reduceLE, Int.reduceLT, SS, one_ne2, num_ne2, TIS, MDS, AV.cells, AV.isCell, Value.cells, Nat.reduceAdd, Nat.reduceEqDiff, Nat.reduceLT, Nat.reduceLeDiff, Nat.reduceMul, Nat.reduceSub, reduceIte]
      try trace_state
    · have hscl := scal_slc h0
      have hT : T = q.now := hoff (by rw [decide_eq_false hr3]; simp)
      rw [hT] at c11
      simp -implicitDefEqProofs only [QS, QN, QG, QO, ZRS, ↓ZDS, ZRG, ↓ZDG, ZRO, ↓ZDO, Go.Proofs.Tryz.f3, c0, c1, c2, c4, c5, c6, c7, c8, c9, c10, c11, c12, c14, decide_eq_true hr2, show decide (m ≥ 0) = true from decide_eq_true hr2, decide_eq_false hr3, bne_self_eq_false, Bool.not_beq_self, scals_ints, hscl, after_refF, shuts_Cond, scals_Fact, shuts_Fact, tscals_Includes, shuts_Includes, ifEv_bool, gate_bool, pick_bool, plan_3_19, plan_3_21, SO, SH, evAppend, rowOf, noref, isRef, isPtr, noPtr, isBad, AV.isUndef, SN, evCutRow, Int.reduceToNat, id_eq, Int.reduceBEq, Int.reduceLE, Int.reduceLT, SS, one_ne2, num_ne2, TIS, MDS, AV.cells, AV.isCell, Value.cells, Nat.reduceAdd, Nat.reduceEqDiff, Nat.reduceLT, Nat.reduceLeDiff, Nat.reduceMul, Nat.reduceSub, reduceIte]
      try trace_state
    · have hscl := scal_slc h0
      simp -implicitDefEqProofs only [QS, QN, QG, QO, ZRS, ↓ZDS, ZRG, ↓ZDG, ZRO, ↓ZDO, Go.Proofs.Tryz.f3, c0, c1, c2, c4, c5, c6, c7, c8, c9, c10, c11, c12, c14, decide_eq_true hr2, show decide (m ≥ 0) = true from decide_eq_true hr2, decide_eq_true hr3, bne_self_eq_false, Bool.not_beq_self, scals_ints, hscl, after_refF, shuts_Cond, scals_Fact, shuts_Fact, tscals_Includes, shuts_Includes, ifEv_bool, gate_bool, pick_bool, plan_3_19, plan_3_21, SO, SH, evAppend, rowOf, noref, isRef, isPtr, noPtr, isBad, AV.isUndef, SN, evCutRow, Int.reduceToNat, id_eq, Int.reduceBEq, Int.reduceLE, Int.reduceLT, SS, one_ne2, num_ne2, TIS, MDS, AV.cells, AV.isCell, Value.cells, Nat.reduceAdd, Nat.reduceEqDiff, Nat.reduceLT, Nat.reduceLeDiff, Nat.reduceMul, Nat.reduceSub, reduceIte]
      obtain ⟨hN, hE⟩ := lead_same (l := l) (s := s) (x := x) (q := q) (most := m) hr3
      have hL : ∀ j, j < lead (sameAt l s x q m) 61 0 → sameAt l s x q m j = true := fun j hj => lead_lt _ 61 0 j (by omega) hj
      have hTe := hon hr1 hr2 hr3
      generalize lead (sameAt l s x q m) 61 0 = N at hN hE hL hTe
      have hall := until_same hL
      have hNm : q.now + (N : Nat) ≤ q.now + m ∧ q.now + (N : Nat) ≤ 10000 := by
        have hn0 := isRequest_now hr1
        cases N with
        | zero => omega
        | succ j =>
          have := hL j (by omega)
          unfold sameAt at this
          simp -implicitDefEqProofs only [Bool.and_eq_true, decide_eq_true_eq] at this
          omega
      have hend := until_end hE
      have hn0 := isRequest_now hr1
      have hw : IntKind.i64.wrap (q.now + m) = q.now + m := IntWalk.i64_in _ (by omega)
      rw [hTe]
      clear c0 c1 c2 c4 c5 c6 c7 c8 c9 c10 c11 c14 hn hb hnx hon hoff hul hol hnw hE hL hfit
      rw [ev_loop]
      refine Eq.trans (loop_list (Q := fun (_ : Unit) z => thenEnd E.P [] _ 0 (thenEv E _ _ _ _ _ (thenEv E _ _ _ _ _ (outOf 0 z))) = some (.bool true, [])) (List.range (N + 1)) goStep id
        (fun i _ => { sl := [(10, .own 0 false 125 2 (l.map (Includes.enc true))), (11, .own 1 false 74 6 (s.map (Fact.enc true))), (12, .ptr 0 0), (13, .ptr 1 0), (14, .int .i64 m), (15, .int .i64 (q.now + (N : Nat))), (16, .int .i64 (q.now + (i : Nat)))],
                      bx := [(0, [.int .i64 x.op, .int .i64 x.a, .int .i64 x.b, .own 2 false 28 4 (x.args.map (Cond.enc true))]), (1, [.int .i64 q.person, .int .i64 q.device, .int .i64 q.program, .int .i64 q.action, .int .i64 q.object, .int .i64 q.now])], nx := 5, nt := 152 })
        (fun _ _ => True) () ?_ ?_ (by simp; omega) trivial ?_) ?_
      · intro _ _
        rw [List.length_range]
        have hx1 : ¬ (q.now + ((N + 1 : Nat) : Int) ≤ q.now + (N : Nat)) := by omega
        have hw1 : IntKind.i64.wrap (q.now + (N : Nat) + 1) = q.now + ((N + 1 : Nat) : Int) := by rw [IntWalk.i64_in _ (by omega)]; omega
        have d3 := c3 (atTime q (q.now + ((N + 1 : Nat) : Int)))
        have d4 := c3 q
        have d13 := c13 (q.now + ((N + 1 : Nat) : Int))
        simp -implicitDefEqProofs only [enc_atTime] at d3
        simp -implicitDefEqProofs only [enc_Request] at d4
        have g1 : decide (q.now + (N : Nat) ≥ q.now) = true := decide_eq_true (by omega)
        have g2 : decide (q.now + (N : Nat) ≤ q.now + m) = true := decide_eq_true (by omega)
        cases e3 : q.now + (N : Nat) == q.now + m
        · cases e4 : q.now + (N : Nat) == 10000
          · have hne : (evalAt l s (atTime q (q.now + ((N + 1 : Nat) : Int))) x != evalAt l s q x) = true := by
              unfold bne
              rw [hend (decide_eq_false (by simpa using e3)) hNm.1 (decide_eq_false (by simpa using e4)) hNm.2]; rfl
            generalize evalAt l s (atTime q (q.now + ((N + 1 : Nat) : Int))) x = b1 at d3 hne
            generalize evalAt l s q x = b2 at d4 hne
            simp -implicitDefEqProofs only [QS, QN, QG, QO, ZRS, ↓ZDS, ZRG, ↓ZDG, ZRO, ↓ZDO, hx1, hw, hw1, g1, g2, e3, e4, d3, d4, d13, scals_Fact, shuts_Fact, tscals_Includes, shuts_Includes, plan_3_19, plan_3_21, SO, SH, evAppend, rowOf, noref, isRef, isPtr, noPtr, isBad, AV.isUndef, leaf_some, isNormal, ifEv_bool, gate_bool, gateP_bool, gateQ_bool, pick_bool, SN, evCutRow, Int.reduceToNat, id_eq, Int.reduceBEq, Int.reduceLE, Int.reduceLT, SS, one_ne2, num_ne2, TIS, MDS, AV.cells, AV.isCell, Value.cells, Nat.reduceAdd, Nat.reduceEqDiff, Nat.reduceLT, Nat.reduceLeDiff, Nat.reduceMul, Nat.reduceSub, reduceIte]
            rw [show (!(b1 == b2)) = true from hne]
          ·
            simp -implicitDefEqProofs only [QS, QN, QG, QO, ZRS, ↓ZDS, ZRG, ↓ZDG, ZRO, ↓ZDO, hx1, hw, hw1, g1, g2, e3, e4, scals_Fact, shuts_Fact, tscals_Includes, shuts_Includes, plan_3_19, plan_3_21, SO, SH, evAppend, rowOf, noref, isRef, isPtr, noPtr, isBad, AV.isUndef, leaf_some, isNormal, ifEv_bool, gate_bool, gateP_bool, gateQ_bool, pick_bool, SN, evCutRow, Int.reduceToNat, id_eq, Int.reduceBEq, Int.reduceLE, Int.reduceLT, SS, one_ne2, num_ne2, TIS, MDS, AV.cells, AV.isCell, Value.cells, Nat.reduceAdd, Nat.reduceEqDiff, Nat.reduceLT, Nat.reduceLeDiff, Nat.reduceMul, Nat.reduceSub, reduceIte]
            try trace_state
        ·
          simp -implicitDefEqProofs only [QS, QN, QG, QO, ZRS, ↓ZDS, ZRG, ↓ZDG, ZRO, ↓ZDO, hx1, hw, hw1, g1, g2, e3, scals_Fact, shuts_Fact, tscals_Includes, shuts_Includes, plan_3_19, plan_3_21, SO, SH, evAppend, rowOf, noref, isRef, isPtr, noPtr, isBad, AV.isUndef, leaf_some, isNormal, ifEv_bool, gate_bool, gateP_bool, gateQ_bool, pick_bool, SN, evCutRow, Int.reduceToNat, id_eq, Int.reduceBEq, Int.reduceLE, Int.reduceLT, SS, one_ne2, num_ne2, TIS, MDS, AV.cells, AV.isCell, Value.cells, Nat.reduceAdd, Nat.reduceEqDiff, Nat.reduceLT, Nat.reduceLeDiff, Nat.reduceMul, Nat.reduceSub, reduceIte]
          try trace_state
      · intro pre z r' _ hs' _
        have hp5 : pre.length ≤ N := by have := congrArg List.length hs'; simp at this; omega
        clear hs'
        have hx1 : q.now + (pre.length : Nat) ≤ q.now + (N : Nat) := by omega
        have hw1 : IntKind.i64.wrap (q.now + (pre.length : Nat) + 1) = q.now + ((pre.length + 1 : Nat) : Int) := by rw [IntWalk.i64_in _ (by omega)]; omega
        have d3 := c3 (atTime q (q.now + (pre.length : Nat)))
        have d4 := c3 q
        have d13 := c13 (q.now + (pre.length : Nat))
        rw [hall _ hp5] at d3
        simp -implicitDefEqProofs only [enc_atTime] at d3
        simp -implicitDefEqProofs only [enc_Request] at d4
        generalize evalAt l s q x = b2 at d3 d4
        simp -implicitDefEqProofs only [QS, QN, QG, QO, ZRS, ↓ZDS, ZRG, ↓ZDG, ZRO, ↓ZDO, hx1, hw1, d3, d4, d13, goStep, bne_self_eq_false, scals_Fact, shuts_Fact, tscals_Includes, shuts_Includes, plan_3_19, plan_3_21, SO, SH, evAppend, rowOf, noref, isRef, isPtr, noPtr, isBad, AV.isUndef, keep_3_17, leaf_some, isNormal, ifEv_bool, gate_bool, gateP_bool, gateQ_bool, pick_bool, SN, evCutRow, Int.reduceToNat, id_eq, Int.reduceBEq, Int.reduceLE, Int.reduceLT, SS, one_ne2, num_ne2, TIS, MDS, AV.cells, AV.isCell, Value.cells, Nat.reduceAdd, Nat.reduceEqDiff, Nat.reduceLT, Nat.reduceLeDiff, Nat.reduceMul, Nat.reduceSub, reduceIte]
        try trace_state
      · simp -implicitDefEqProofs only [firstRegion]
        rw [keep_3_17]
        have hz : q.now + ((0 : Nat) : Int) = q.now := Int.add_zero _
        rw [hz]
        simp -implicitDefEqProofs only [QS, QN, QG, QO, ZRS, ↓ZDS, ZRG, ↓ZDG, ZRO, ↓ZDO, SN, evCutRow, Int.reduceToNat, id_eq, Int.reduceBEq, Int.reduceLE, Int.reduceLT, SO, SH, evAppend, rowOf, noref, isRef, isPtr, noPtr, isBad, AV.isUndef, SS, one_ne2, num_ne2, TIS, MDS, AV.cells, AV.isCell, Value.cells, Nat.reduceAdd, Nat.reduceEqDiff, Nat.reduceLT, Nat.reduceLeDiff, Nat.reduceMul, Nat.reduceSub, reduceIte]
        try trace_state
      · rfl
    · rw [hb hc2] at c6 c14
      have hscl := scal_slc h0
      have hT : T = q.now := hoff (by rw [hr1]; rfl)
      rw [hT] at c11
      simp -implicitDefEqProofs only [QS, QN, QG, QO, ZRS, ↓ZDS, ZRG, ↓ZDG, ZRO, ↓ZDO, Go.Proofs.Tryz.f3, c0, c1, c2, c4, c5, c6, c7, c8, c9, c10, c11, c12, c14, bne_self_eq_false, Bool.not_beq_self, scals_ints, hscl, after_refF, shuts_Cond, scals_Fact, shuts_Fact, tscals_Includes, shuts_Includes, ifEv_bool, gate_bool, pick_bool, plan_3_19, plan_3_21, SO, SH, evAppend, rowOf, noref, isRef, isPtr, noPtr, isBad, AV.isUndef, SN, evCutRow, Int.reduceToNat, id_eq, Int.reduceBEq, Int.reduceLE, Int.reduceLT, SS, one_ne2, num_ne2, TIS, MDS, AV.cells, AV.isCell, Value.cells, Nat.reduceAdd, Nat.reduceEqDiff, Nat.reduceLT, Nat.reduceLeDiff, Nat.reduceMul, Nat.reduceSub, reduceIte]
      try trace_state
    · rw [hb hc2] at c6 c14
      have hscl := scal_slc h0
      have hT : T = q.now := hoff (by rw [decide_eq_false hr2]; simp)
      rw [hT] at c11
      simp -implicitDefEqProofs only [QS, QN, QG, QO, ZRS, ↓ZDS, ZRG, ↓ZDG, ZRO, ↓ZDO, Go.Proofs.Tryz.f3, c0, c1, c2, c4, c5, c6, c7, c8, c9, c10, c11, c12, c14, decide_eq_false hr2, show decide (m ≥ 0) = false from decide_eq_false hr2, bne_self_eq_false, Bool.not_beq_self, scals_ints, hscl, after_refF, shuts_Cond, scals_Fact, shuts_Fact, tscals_Includes, shuts_Includes, ifEv_bool, gate_bool, pick_bool, plan_3_19, plan_3_21, SO, SH, evAppend, rowOf, noref, isRef, isPtr, noPtr, isBad, AV.isUndef, SN, evCutRow, Int.reduceToNat, id_eq, Int.reduceBEq, Int.reduceLE, Int.reduceLT, SS, one_ne2, num_ne2, TIS, MDS, AV.cells, AV.isCell, Value.cells, Nat.reduceAdd, Nat.reduceEqDiff, Nat.reduceLT, Nat.reduceLeDiff, Nat.reduceMul, Nat.reduceSub, reduceIte]
      try trace_state
    · rw [hb hc2] at c6 c14
      have hscl := scal_slc h0
      have hT : T = q.now := hoff (by rw [decide_eq_false hr3]; simp)
      rw [hT] at c11
      simp -implicitDefEqProofs only [QS, QN, QG, QO, ZRS, ↓ZDS, ZRG, ↓ZDG, ZRO, ↓ZDO, Go.Proofs.Tryz.f3, c0, c1, c2, c4, c5, c6, c7, c8, c9, c10, c11, c12, c14, decide_eq_true hr2, show decide (m ≥ 0) = true from decide_eq_true hr2, decide_eq_false hr3, bne_self_eq_false, Bool.not_beq_self, scals_ints, hscl, after_refF, shuts_Cond, scals_Fact, shuts_Fact, tscals_Includes, shuts_Includes, ifEv_bool, gate_bool, pick_bool, plan_3_19, plan_3_21, SO, SH, evAppend, rowOf, noref, isRef, isPtr, noPtr, isBad, AV.isUndef, SN, evCutRow, Int.reduceToNat, id_eq, Int.reduceBEq, Int.reduceLE, Int.reduceLT, SS, one_ne2, num_ne2, TIS, MDS, AV.cells, AV.isCell, Value.cells, Nat.reduceAdd, Nat.reduceEqDiff, Nat.reduceLT, Nat.reduceLeDiff, Nat.reduceMul, Nat.reduceSub, reduceIte]
      try trace_state
    · rw [hb hc2] at c6 c14
      have hscl := scal_slc h0
      simp -implicitDefEqProofs only [QS, QN, QG, QO, ZRS, ↓ZDS, ZRG, ↓ZDG, ZRO, ↓ZDO, Go.Proofs.Tryz.f3, c0, c1, c2, c4, c5, c6, c7, c8, c9, c10, c11, c12, c14, decide_eq_true hr2, show decide (m ≥ 0) = true from decide_eq_true hr2, decide_eq_true hr3, bne_self_eq_false, Bool.not_beq_self, scals_ints, hscl, after_refF, shuts_Cond, scals_Fact, shuts_Fact, tscals_Includes, shuts_Includes, ifEv_bool, gate_bool, pick_bool, plan_3_19, plan_3_21, SO, SH, evAppend, rowOf, noref, isRef, isPtr, noPtr, isBad, AV.isUndef, SN, evCutRow, Int.reduceToNat, id_eq, Int.reduceBEq, Int.reduceLE, Int.reduceLT, SS, one_ne2, num_ne2, TIS, MDS, AV.cells, AV.isCell, Value.cells, Nat.reduceAdd, Nat.reduceEqDiff, Nat.reduceLT, Nat.reduceLeDiff, Nat.reduceMul, Nat.reduceSub, reduceIte]
      obtain ⟨hN, hE⟩ := lead_same (l := l) (s := s) (x := x) (q := q) (most := m) hr3
      have hL : ∀ j, j < lead (sameAt l s x q m) 61 0 → sameAt l s x q m j = true := fun j hj => lead_lt _ 61 0 j (by omega) hj
      have hTe := hon hr1 hr2 hr3
      generalize lead (sameAt l s x q m) 61 0 = N at hN hE hL hTe
      have hall := until_same hL
      have hNm : q.now + (N : Nat) ≤ q.now + m ∧ q.now + (N : Nat) ≤ 10000 := by
        have hn0 := isRequest_now hr1
        cases N with
        | zero => omega
        | succ j =>
          have := hL j (by omega)
          unfold sameAt at this
          simp -implicitDefEqProofs only [Bool.and_eq_true, decide_eq_true_eq] at this
          omega
      have hend := until_end hE
      have hn0 := isRequest_now hr1
      have hw : IntKind.i64.wrap (q.now + m) = q.now + m := IntWalk.i64_in _ (by omega)
      rw [hTe]
      clear c0 c1 c2 c4 c5 c6 c7 c8 c9 c10 c11 c14 hn hb hnx hon hoff hul hol hnw hE hL hfit
      rw [ev_loop]
      refine Eq.trans (loop_list (Q := fun (_ : Unit) z => thenEnd E.P [] _ 0 (thenEv E _ _ _ _ _ (thenEv E _ _ _ _ _ (outOf 0 z))) = some (.bool true, [])) (List.range (N + 1)) goStep id
        (fun i _ => { sl := [(10, .own 0 false 125 2 (l.map (Includes.enc true))), (11, .own 1 false 74 6 (s.map (Fact.enc true))), (12, .ptr 0 0), (13, .ptr 1 0), (14, .int .i64 m), (15, .int .i64 (q.now + (N : Nat))), (16, .int .i64 (q.now + (i : Nat)))],
                      bx := [(0, [.int .i64 x.op, .int .i64 x.a, .int .i64 x.b, .own 2 false 28 4 (x.args.map (Cond.enc true))]), (1, [.int .i64 q.person, .int .i64 q.device, .int .i64 q.program, .int .i64 q.action, .int .i64 q.object, .int .i64 q.now])], nx := 5, nt := 152 })
        (fun _ _ => True) () ?_ ?_ (by simp; omega) trivial ?_) ?_
      · intro _ _
        rw [List.length_range]
        have hx1 : ¬ (q.now + ((N + 1 : Nat) : Int) ≤ q.now + (N : Nat)) := by omega
        have hw1 : IntKind.i64.wrap (q.now + (N : Nat) + 1) = q.now + ((N + 1 : Nat) : Int) := by rw [IntWalk.i64_in _ (by omega)]; omega
        have d3 := c3 (atTime q (q.now + ((N + 1 : Nat) : Int)))
        have d4 := c3 q
        have d13 := c13 (q.now + ((N + 1 : Nat) : Int))
        simp -implicitDefEqProofs only [enc_atTime] at d3
        simp -implicitDefEqProofs only [enc_Request] at d4
        have g1 : decide (q.now + (N : Nat) ≥ q.now) = true := decide_eq_true (by omega)
        have g2 : decide (q.now + (N : Nat) ≤ q.now + m) = true := decide_eq_true (by omega)
        cases e3 : q.now + (N : Nat) == q.now + m
        · cases e4 : q.now + (N : Nat) == 10000
          · have hne : (evalAt l s (atTime q (q.now + ((N + 1 : Nat) : Int))) x != evalAt l s q x) = true := by
              unfold bne
              rw [hend (decide_eq_false (by simpa using e3)) hNm.1 (decide_eq_false (by simpa using e4)) hNm.2]; rfl
            generalize evalAt l s (atTime q (q.now + ((N + 1 : Nat) : Int))) x = b1 at d3 hne
            generalize evalAt l s q x = b2 at d4 hne
            simp -implicitDefEqProofs only [QS, QN, QG, QO, ZRS, ↓ZDS, ZRG, ↓ZDG, ZRO, ↓ZDO, hx1, hw, hw1, g1, g2, e3, e4, d3, d4, d13, scals_Fact, shuts_Fact, tscals_Includes, shuts_Includes, plan_3_19, plan_3_21, SO, SH, evAppend, rowOf, noref, isRef, isPtr, noPtr, isBad, AV.isUndef, leaf_some, isNormal, ifEv_bool, gate_bool, gateP_bool, gateQ_bool, pick_bool, SN, evCutRow, Int.reduceToNat, id_eq, Int.reduceBEq, Int.reduceLE, Int.reduceLT, SS, one_ne2, num_ne2, TIS, MDS, AV.cells, AV.isCell, Value.cells, Nat.reduceAdd, Nat.reduceEqDiff, Nat.reduceLT, Nat.reduceLeDiff, Nat.reduceMul, Nat.reduceSub, reduceIte]
            rw [show (!(b1 == b2)) = true from hne]
          ·
            simp -implicitDefEqProofs only [QS, QN, QG, QO, ZRS, ↓ZDS, ZRG, ↓ZDG, ZRO, ↓ZDO, hx1, hw, hw1, g1, g2, e3, e4, scals_Fact, shuts_Fact, tscals_Includes, shuts_Includes, plan_3_19, plan_3_21, SO, SH, evAppend, rowOf, noref, isRef, isPtr, noPtr, isBad, AV.isUndef, leaf_some, isNormal, ifEv_bool, gate_bool, gateP_bool, gateQ_bool, pick_bool, SN, evCutRow, Int.reduceToNat, id_eq, Int.reduceBEq, Int.reduceLE, Int.reduceLT, SS, one_ne2, num_ne2, TIS, MDS, AV.cells, AV.isCell, Value.cells, Nat.reduceAdd, Nat.reduceEqDiff, Nat.reduceLT, Nat.reduceLeDiff, Nat.reduceMul, Nat.reduceSub, reduceIte]
            try trace_state
        ·
          simp -implicitDefEqProofs only [QS, QN, QG, QO, ZRS, ↓ZDS, ZRG, ↓ZDG, ZRO, ↓ZDO, hx1, hw, hw1, g1, g2, e3, scals_Fact, shuts_Fact, tscals_Includes, shuts_Includes, plan_3_19, plan_3_21, SO, SH, evAppend, rowOf, noref, isRef, isPtr, noPtr, isBad, AV.isUndef, leaf_some, isNormal, ifEv_bool, gate_bool, gateP_bool, gateQ_bool, pick_bool, SN, evCutRow, Int.reduceToNat, id_eq, Int.reduceBEq, Int.reduceLE, Int.reduceLT, SS, one_ne2, num_ne2, TIS, MDS, AV.cells, AV.isCell, Value.cells, Nat.reduceAdd, Nat.reduceEqDiff, Nat.reduceLT, Nat.reduceLeDiff, Nat.reduceMul, Nat.reduceSub, reduceIte]
          try trace_state
      · intro pre z r' _ hs' _
        have hp5 : pre.length ≤ N := by have := congrArg List.length hs'; simp at this; omega
        clear hs'
        have hx1 : q.now + (pre.length : Nat) ≤ q.now + (N : Nat) := by omega
        have hw1 : IntKind.i64.wrap (q.now + (pre.length : Nat) + 1) = q.now + ((pre.length + 1 : Nat) : Int) := by rw [IntWalk.i64_in _ (by omega)]; omega
        have d3 := c3 (atTime q (q.now + (pre.length : Nat)))
        have d4 := c3 q
        have d13 := c13 (q.now + (pre.length : Nat))
        rw [hall _ hp5] at d3
        simp -implicitDefEqProofs only [enc_atTime] at d3
        simp -implicitDefEqProofs only [enc_Request] at d4
        generalize evalAt l s q x = b2 at d3 d4
        simp -implicitDefEqProofs only [QS, QN, QG, QO, ZRS, ↓ZDS, ZRG, ↓ZDG, ZRO, ↓ZDO, hx1, hw1, d3, d4, d13, goStep, bne_self_eq_false, scals_Fact, shuts_Fact, tscals_Includes, shuts_Includes, plan_3_19, plan_3_21, SO, SH, evAppend, rowOf, noref, isRef, isPtr, noPtr, isBad, AV.isUndef, keep_3_17, leaf_some, isNormal, ifEv_bool, gate_bool, gateP_bool, gateQ_bool, pick_bool, SN, evCutRow, Int.reduceToNat, id_eq, Int.reduceBEq, Int.reduceLE, Int.reduceLT, SS, one_ne2, num_ne2, TIS, MDS, AV.cells, AV.isCell, Value.cells, Nat.reduceAdd, Nat.reduceEqDiff, Nat.reduceLT, Nat.reduceLeDiff, Nat.reduceMul, Nat.reduceSub, reduceIte]
        try trace_state
      · simp -implicitDefEqProofs only [firstRegion]
        rw [keep_3_17]
        have hz : q.now + ((0 : Nat) : Int) = q.now := Int.add_zero _
        rw [hz]
        simp -implicitDefEqProofs only [QS, QN, QG, QO, ZRS, ↓ZDS, ZRG, ↓ZDG, ZRO, ↓ZDO, SN, evCutRow, Int.reduceToNat, id_eq, Int.reduceBEq, Int.reduceLE, Int.reduceLT, SO, SH, evAppend, rowOf, noref, isRef, isPtr, noPtr, isBad, AV.isUndef, SS, one_ne2, num_ne2, TIS, MDS, AV.cells, AV.isCell, Value.cells, Nat.reduceAdd, Nat.reduceEqDiff, Nat.reduceLT, Nat.reduceLeDiff, Nat.reduceMul, Nat.reduceSub, reduceIte]
        try trace_state
      · rfl
  · have hl : bs.length ≤ 140737488355328 := hfit.1
    have c0 := r_laws_big (fl := false) (k - 1) (by omega) bs hl
    rw [decide_eq_true (by omega : (1048576 : Int) < (bs.length : Nat))] at c0
    obtain ⟨k, rfl⟩ : ∃ j, k = j + 1 := ⟨k - 1, by omega⟩
    rw [run_succ rfl rfl, body_eq (nt := 152) (fn := Go.Proofs.Tryz.f3) (by kernel_rfl) rfl rfl rfl rfl rfl rfl rfl rfl]
    simp -implicitDefEqProofs only [Nat.add_sub_cancel] at c0
    simp -implicitDefEqProofs only [QS, QN, QG, QO, ZRS, ↓ZDS, ZRG, ↓ZDG, ZRO, ↓ZDO, Go.Proofs.Tryz.f3, c0, SO, SH, evAppend, rowOf, noref, isRef, isPtr, noPtr, isBad, AV.isUndef, SN, evCutRow, Int.reduceToNat, id_eq, Int.reduceBEq, Int.reduceLE, Int.reduceLT, SS, one_ne2, num_ne2, TIS, MDS, AV.cells, AV.isCell, Value.cells, Nat.reduceAdd, Nat.reduceEqDiff, Nat.reduceLT, Nat.reduceLeDiff, Nat.reduceMul, Nat.reduceSub, reduceIte]
end Go.Proofs.YtigfcbcnfppmcaaGreat.Flat
