/-
The draws: cases of requests and facts; policies to decide by.
-/
import Derived.Test.YtaojmienjikfbaaGreatDoorEqPH
import Derived.Test.YtaojmienjikfbaaGreatDoorFlatM4
set_option linter.unusedVariables false
set_option linter.unusedSimpArgs false
set_option maxRecDepth 10000
namespace Go.Proofs.YtaojmienjikfbaaGreatDoor.Flat
theorem evCall_give1 {Φ : Phi} {nid n : Nat} {x : AV} {dst : Option Nat} {st : St} : evCall Φ [.give] nid n [x] [] dst st = evGive Φ nid n [(.give, x)] dst st := rfl
theorem opQ_assign {Φ : Phi} {nid : Nat} {x : Operand} {st : St} {dst : Option Nat} {type : TypeId} {pos : String} {after : Array Edge} {guard : Option (Nat × Bool)} :
    evOpQ E Φ nid { dst, op := .assign x, type, pos, after, guard } st = st.put dst (st.val x) := rfl
def maxI (a b : Int) : Int := if a < b then b else a
def caseSub (q : Request) (f : Fact) : Int := if (f.kind == 1) = true then q.person else if (f.kind == 2) = true then q.person else if (f.kind == 3) = true then q.device else q.program
def caseVal (q : Request) (f : Fact) : Int := if (f.kind == 1) = true then f.value else if (f.kind == 2) = true then q.device else f.value
def caseF (bs : List Int) (q : Request) (f : Fact) (i : Nat) (h : Int) : Fact :=
  ⟨f.kind, caseSub q f, caseVal q f, f.issuer, maxI 0 (IntKind.i64.wrap (q.now - below1 bs 6 i h)), IntKind.i64.wrap (q.now + below1 bs 10 (belowI bs 6 i) (belowH 6 h))⟩
def caseStep (bs : List Int) (q : Request) (b : List Fact × Nat × Int) : List Fact × Nat × Int :=
  (putS b.1 (caseF bs q (factD bs b.2.1 b.2.2).1 (factD bs b.2.1 b.2.2).2.1 (factD bs b.2.1 b.2.2).2.2), belowI bs 10 (belowI bs 6 (factD bs b.2.1 b.2.2).2.1), belowH 10 (belowH 6 (factD bs b.2.1 b.2.2).2.2))
def caseN (bs : List Int) (q : Request) (b : List Fact × Nat × Int) : Nat → List Fact × Nat × Int
  | 0 => b
  | n + 1 => caseStep bs q (caseN bs q b n)
theorem caseN_len {bs : List Int} {q : Request} {b : List Fact × Nat × Int} (hb : b.1.length ≤ 30) : ∀ n, (caseN bs q b n).1.length ≤ 30
  | 0 => hb
  | n + 1 => putS_len (caseN_len hb n)
def caseD (bs : List Int) (i : Nat) (h : Int) : List Includes × List Fact × Request × Nat × Int :=
  let P := pairsD bs i h; let S := storeD bs P.2.1 P.2.2; let Q := requestD bs S.2.1 S.2.2
  let R := caseN bs Q.1 (S.1, belowI bs 5 Q.2.1, belowH 5 Q.2.2) (below1 bs 5 Q.2.1 Q.2.2).toNat
  (P.1, R.1, Q.1, R.2.1, R.2.2)
theorem caseD_len {bs : List Int} {i : Nat} {h : Int} : (caseD bs i h).2.1.length ≤ 30 := by
  unfold caseD
  simp only
  refine caseN_len ?_ _
  exact storeD_len
theorem caseD_len1 {bs : List Int} {i : Nat} {h : Int} : (caseD bs i h).1.length ≤ 3 := pairsD_len
theorem r_spec_l17Case {fl : Bool} (k : Nat) (hk : 281474976710656 + 30 ≤ k) (bs : List Int) (hb : bs.length ≤ 140737488355328) (i : Nat) (h : Int) :
    run E noExt k 62 [.ptr 0 0] [[.sl fl (bs.map byteA), .int .i64 (i : Nat), .int .i64 h]] =
      some (.tup [.own 0 false 66 2 ((caseD bs i h).1.map (Includes.enc true)), .own 1 false 70 6 ((caseD bs i h).2.1.map (Fact.enc true)), (caseD bs i h).2.2.1.enc true], [[.sl fl (bs.map byteA), .int .i64 ((caseD bs i h).2.2.2.1 : Nat), .int .i64 (caseD bs i h).2.2.2.2]]) := by
  have c1 := fun n i h => r_spec_l1Below (fl := fl) (k - 1) (by omega) bs hb n i h
  have c2 := fun i h => r_spec_l6Fact (fl := fl) (k - 1) (by omega) bs hb i h
  have c3 := fun s hs f => r_spec_PutFact (k - 1) (by omega) s hs f
  have c5 := fun i h => r_spec_l14Pairs (fl := fl) (k - 1) (by omega) bs hb i h
  have c6 := fun i h => r_spec_l7Store (fl := fl) (k - 1) (by omega) bs hb i h
  have c7 := fun i h => r_spec_l17Request (fl := fl) (k - 1) (by omega) bs hb i h
  have c8 : ∀ a b, run E noExt (k - 1) 87 [.int .i64 a, .int .i64 b] [] = some (.int .i64 (maxI a b), []) := fun a b => r_spec_Max (k - 1) (by omega) a b
  obtain ⟨k, rfl⟩ : ∃ j, k = j + 1 := ⟨k - 1, by omega⟩
  rw [run_succ rfl rfl, body_eq (nt := 69) (fn := Go.Proofs.Tryz.f62) (by kernel_rfl) rfl rfl rfl rfl rfl rfl rfl rfl]
  simp -implicitDefEqProofs only [Nat.add_sub_cancel, enc_Fact, enc_Request] at c1 c2 c3 c5 c6 c7 c8
  unfold caseD
  simp only
  have d5 := c5 i h
  generalize hP : pairsD bs i h = P at *
  have d6 := c6 P.2.1 P.2.2
  have hS0 : (storeD bs P.2.1 P.2.2).1.length ≤ 30 := storeD_len
  generalize hS : storeD bs P.2.1 P.2.2 = S at *
  have d7 := c7 S.2.1 S.2.2
  generalize hQ : requestD bs S.2.1 S.2.2 = Q at *
  have hlt := below_lt bs (n := 5) (by omega) (by omega) Q.2.1 Q.2.2
  generalize hd : below1 bs 5 Q.2.1 Q.2.2 = d at *
  obtain ⟨m, rfl⟩ : ∃ m : Nat, d = (m : Int) := ⟨d.toNat, by omega⟩
  simp -implicitDefEqProofs only [Int.toNat_natCast]
  simp -implicitDefEqProofs only [W3, ↓D3, ↓DA, Go.Proofs.Tryz.f62, c1, d5, d6, d7, hd, scals_Fact, tscals_Includes, rows_argsR, boxes_argsR, ↓isCell_argsR, cells_argsR, cellsX_agg, cellsX_int, cellsX_bool, cellsX_str, cellsX_nils, cellsX_sl, cellsX_own, cellsX_ptr, cellsX_cptr, cellsX_undef, dedup_rowsD, nodup_rowsD, all_rowsD, all_rowsT, small_rowsD, bad_argsR, ptr_argsR, mapO_argsR, imp_argsR, lend_argsR4, shut_argsR, mem_rowsD, allmem_rowsD, after_D, freeze_ite, frzB_argsR, away_argsR, calm_argsR, opS_store, slidP_ptr, opS_call, slidM_io1, slidM_io2, away_F, away_ptr, away_int, away_bool, away_nils, away_undef, away_sl, away_agg, away_own, look_nil, evCall_io1, evCall_io2, evCall_io3, evCall_io4, finJ_1, finJ_2, finJ_3, finJ_4, finJ_int, finJ_bool, finJ_str, finJ_nils, finJ_agg, finJ_own, finJ_sl, finJ_tup, look_cons, reduceCtorEq, evCall_mutOwn, evCall_mutAgg, evGive, giveRows, ioBoxes, mutArgs, roArgs, handArg, mutSlots, isPtrB, pairs, pairss, back_nil, back_cons, backO, backE, setBoxes, importB, mode_mut, mode_give, mode_io, mode_ro, List.zip_cons_cons, List.zip_nil_left, List.zip_nil_right, ite_self, ite_true, ite_false, finish_give, finish_mut1, finish_io0, finish_io2, finish_io3, finish_ioc, finI, finC, finW_ptr, SH, noref, isRef, isPtr, noPtr, isBad, AV.isUndef, Int.reduceToNat, id_eq, Int.reduceBEq, Int.reduceLE, Int.reduceLT, AV.cells, AV.isCell, Value.cells, Nat.reduceAdd, Nat.reduceEqDiff, Nat.reduceLT, Nat.reduceLeDiff, Nat.reduceMul, Nat.reduceSub, reduceIte]
  rw [ev_loop]
  generalize hB : (S.1, belowI bs 5 Q.2.1, belowH 5 Q.2.2) = B0 at *
  refine Eq.trans (loop_list (Q := fun (_ : Unit) x => thenEnd E.P _ _ 1 (thenEv E _ _ _ _ _ (outOf 0 x)) = some (.tup [.own 0 false 66 2 (P.1.map (Includes.enc true)), .own 1 false 70 6 ((caseN bs Q.1 B0 m).1.map (Fact.enc true)), .agg [.int .i64 Q.1.person, .int .i64 Q.1.device, .int .i64 Q.1.program, .int .i64 Q.1.action, .int .i64 Q.1.object, .int .i64 Q.1.now]], [[.sl fl (bs.map byteA), .int .i64 ((caseN bs Q.1 B0 m).2.1 : Nat), .int .i64 (caseN bs Q.1 B0 m).2.2]])) (List.range m) (fun _ _ _ => .inr ()) id
    (fun j _ => { sl := [(0, .ptr 0 0), (4, .ptr 1 0), (5, .own 0 false 66 2 (P.1.map (Includes.enc true))), (6, .own 1 false 70 6 ((caseN bs Q.1 B0 j).1.map (Fact.enc true))), (7, .ptr 2 0), (8, .int .i64 (((m - j : Nat) : Int)))], bx := [(0, [.sl fl (bs.map byteA), .int .i64 ((caseN bs Q.1 B0 j).2.1 : Nat), .int .i64 (caseN bs Q.1 B0 j).2.2]), (1, [.int .i64 0, .int .i64 0, .int .i64 0, .int .i64 0, .int .i64 0, .int .i64 0]), (2, [.int .i64 Q.1.person, .int .i64 Q.1.device, .int .i64 Q.1.program, .int .i64 Q.1.action, .int .i64 Q.1.object, .int .i64 Q.1.now])], nx := 5, nt := 69 }) (fun _ _ => True) () ?_ ?_ (by simp; omega) trivial ?_) ?_
  · intro _ _
    rw [List.length_range, Nat.sub_self]
    have h0 : ¬ (0 : Int) < ((0 : Nat) : Int) := by omega
    simp -implicitDefEqProofs only [W3, ↓D3, ↓DA, ↓DP, ↓DC, QX, h0, opQ_assign, finish_manyI, resultsOf, resultOf, plan_62_17, plan_62_18, plan_62_20, look_nil, evCall_io1, evCall_io2, evCall_io3, evCall_io4, finJ_1, finJ_2, finJ_3, finJ_4, finJ_int, finJ_bool, finJ_str, finJ_nils, finJ_agg, finJ_own, finJ_sl, finJ_tup, look_cons, reduceCtorEq, evCall_mutOwn, evCall_mutAgg, evGive, giveRows, ioBoxes, mutArgs, roArgs, handArg, mutSlots, isPtrB, pairs, pairss, back_nil, back_cons, backO, backE, setBoxes, importB, mode_mut, mode_give, mode_io, mode_ro, List.zip_cons_cons, List.zip_nil_left, List.zip_nil_right, ite_self, ite_true, ite_false, finish_give, finish_mut1, finish_io0, finish_io2, finish_io3, finish_ioc, finI, finC, finW_ptr, SH, leaf_some, isNormal, Int.reduceToNat, id_eq, Int.reduceBEq, Int.reduceLE, Int.reduceLT, Nat.reduceAdd, Nat.reduceEqDiff, Nat.reduceLT, Nat.reduceLeDiff, Nat.reduceMul, Nat.reduceSub, reduceIte]
    try trace_state
  · intro pre z r _ hs' _
    have hpl : pre.length < m := by have := congrArg List.length hs'; simp at this; omega
    clear hs'
    have hp0 : (0 : Int) < ((m - pre.length : Nat) : Int) := by omega
    have hw1 : IntKind.i64.wrap (((m - pre.length : Nat) : Int) - 1) = ((m - (pre.length + 1) : Nat) : Int) := by rw [IntWalk.i64_in _ (by omega)]; omega
    have hst := caseN_len (bs := bs) (q := Q.1) (b := B0) (by rw [← hB]; exact hS0) pre.length
    simp -implicitDefEqProofs only [caseN]
    generalize caseN bs Q.1 B0 pre.length = b at *
    have c4 := c3 b.1 (by omega) (caseF bs Q.1 (factD bs b.2.1 b.2.2).1 (factD bs b.2.1 b.2.2).2.1 (factD bs b.2.1 b.2.2).2.2)
    have d2 := c2 b.2.1 b.2.2
    simp -implicitDefEqProofs only [caseStep]
    generalize factD bs b.2.1 b.2.2 = F at *
    generalize hY : putS b.1 (caseF bs Q.1 F.1 F.2.1 F.2.2) = Y at *
    simp -implicitDefEqProofs only [caseF, caseSub, caseVal] at c4
    rcases five (!(F.1.kind == 1)) (F.1.kind == 2) (!(F.1.kind == 3)) true with hk1 | ⟨hk1, hk2⟩ | ⟨hk1, hk2, hk3⟩ | ⟨hk1, hk2, hk3, _⟩ | ⟨_, _, _, hk4⟩
    · rw [Bool.not_eq_false'] at hk1
      simp -implicitDefEqProofs only [hk1, if_true] at c4
      simp -implicitDefEqProofs only [W3, ↓D3, ↓DA, ↓DP, ↓DC, QX, hp0, hw1, hk1, c1, d2, c4, c8, opS_call, slidM_io2, away_ptr, away_int, away_F, scals_Fact, shuts_Fact, plan_62_17, plan_62_18, plan_62_20, look_nil, evCall_io1, evCall_io2, evCall_io3, evCall_io4, finJ_1, finJ_2, finJ_3, finJ_4, finJ_int, finJ_bool, finJ_str, finJ_nils, finJ_agg, finJ_own, finJ_sl, finJ_tup, look_cons, reduceCtorEq, evCall_mutOwn, evCall_mutAgg, evGive, giveRows, ioBoxes, mutArgs, roArgs, handArg, mutSlots, isPtrB, pairs, pairss, back_nil, back_cons, backO, backE, setBoxes, importB, mode_mut, mode_give, mode_io, mode_ro, List.zip_cons_cons, List.zip_nil_left, List.zip_nil_right, ite_self, ite_true, ite_false, finish_give, finish_mut1, finish_io0, finish_io2, finish_io3, finish_ioc, finI, finC, finW_ptr, SH, keep_62_5, leaf_some, isNormal, Int.reduceToNat, id_eq, Int.reduceBEq, Int.reduceLE, Int.reduceLT, Nat.reduceAdd, Nat.reduceEqDiff, Nat.reduceLT, Nat.reduceLeDiff, Nat.reduceMul, Nat.reduceSub, reduceIte]
      try trace_state
    · rw [Bool.not_eq_true'] at hk1
      simp -implicitDefEqProofs only [hk1, hk2, Bool.false_eq_true, if_false, if_true] at c4
      simp -implicitDefEqProofs only [W3, ↓D3, ↓DA, ↓DP, ↓DC, QX, hp0, hw1, hk1, hk2, c1, d2, c4, c8, opS_call, slidM_io2, away_ptr, away_int, away_F, scals_Fact, shuts_Fact, plan_62_17, plan_62_18, plan_62_20, look_nil, evCall_io1, evCall_io2, evCall_io3, evCall_io4, finJ_1, finJ_2, finJ_3, finJ_4, finJ_int, finJ_bool, finJ_str, finJ_nils, finJ_agg, finJ_own, finJ_sl, finJ_tup, look_cons, reduceCtorEq, evCall_mutOwn, evCall_mutAgg, evGive, giveRows, ioBoxes, mutArgs, roArgs, handArg, mutSlots, isPtrB, pairs, pairss, back_nil, back_cons, backO, backE, setBoxes, importB, mode_mut, mode_give, mode_io, mode_ro, List.zip_cons_cons, List.zip_nil_left, List.zip_nil_right, ite_self, ite_true, ite_false, finish_give, finish_mut1, finish_io0, finish_io2, finish_io3, finish_ioc, finI, finC, finW_ptr, SH, keep_62_5, leaf_some, isNormal, Int.reduceToNat, id_eq, Int.reduceBEq, Int.reduceLE, Int.reduceLT, Nat.reduceAdd, Nat.reduceEqDiff, Nat.reduceLT, Nat.reduceLeDiff, Nat.reduceMul, Nat.reduceSub, reduceIte]
      try trace_state
    · rw [Bool.not_eq_true'] at hk1
      rw [Bool.not_eq_false'] at hk3
      simp -implicitDefEqProofs only [hk1, hk2, hk3, Bool.false_eq_true, if_false, if_true] at c4
      simp -implicitDefEqProofs only [W3, ↓D3, ↓DA, ↓DP, ↓DC, QX, hp0, hw1, hk1, hk2, hk3, c1, d2, c4, c8, opS_call, slidM_io2, away_ptr, away_int, away_F, scals_Fact, shuts_Fact, plan_62_17, plan_62_18, plan_62_20, look_nil, evCall_io1, evCall_io2, evCall_io3, evCall_io4, finJ_1, finJ_2, finJ_3, finJ_4, finJ_int, finJ_bool, finJ_str, finJ_nils, finJ_agg, finJ_own, finJ_sl, finJ_tup, look_cons, reduceCtorEq, evCall_mutOwn, evCall_mutAgg, evGive, giveRows, ioBoxes, mutArgs, roArgs, handArg, mutSlots, isPtrB, pairs, pairss, back_nil, back_cons, backO, backE, setBoxes, importB, mode_mut, mode_give, mode_io, mode_ro, List.zip_cons_cons, List.zip_nil_left, List.zip_nil_right, ite_self, ite_true, ite_false, finish_give, finish_mut1, finish_io0, finish_io2, finish_io3, finish_ioc, finI, finC, finW_ptr, SH, keep_62_5, leaf_some, isNormal, Int.reduceToNat, id_eq, Int.reduceBEq, Int.reduceLE, Int.reduceLT, Nat.reduceAdd, Nat.reduceEqDiff, Nat.reduceLT, Nat.reduceLeDiff, Nat.reduceMul, Nat.reduceSub, reduceIte]
      try trace_state
    · rw [Bool.not_eq_true'] at hk1 hk3
      simp -implicitDefEqProofs only [hk1, hk2, hk3, Bool.false_eq_true, if_false] at c4
      simp -implicitDefEqProofs only [W3, ↓D3, ↓DA, ↓DP, ↓DC, QX, hp0, hw1, hk1, hk2, hk3, c1, d2, c4, c8, opS_call, slidM_io2, away_ptr, away_int, away_F, scals_Fact, shuts_Fact, plan_62_17, plan_62_18, plan_62_20, look_nil, evCall_io1, evCall_io2, evCall_io3, evCall_io4, finJ_1, finJ_2, finJ_3, finJ_4, finJ_int, finJ_bool, finJ_str, finJ_nils, finJ_agg, finJ_own, finJ_sl, finJ_tup, look_cons, reduceCtorEq, evCall_mutOwn, evCall_mutAgg, evGive, giveRows, ioBoxes, mutArgs, roArgs, handArg, mutSlots, isPtrB, pairs, pairss, back_nil, back_cons, backO, backE, setBoxes, importB, mode_mut, mode_give, mode_io, mode_ro, List.zip_cons_cons, List.zip_nil_left, List.zip_nil_right, ite_self, ite_true, ite_false, finish_give, finish_mut1, finish_io0, finish_io2, finish_io3, finish_ioc, finI, finC, finW_ptr, SH, keep_62_5, leaf_some, isNormal, Int.reduceToNat, id_eq, Int.reduceBEq, Int.reduceLE, Int.reduceLT, Nat.reduceAdd, Nat.reduceEqDiff, Nat.reduceLT, Nat.reduceLeDiff, Nat.reduceMul, Nat.reduceSub, reduceIte]
      try trace_state
    · simp at hk4
  · simp -implicitDefEqProofs only [firstRegion]
    rw [keep_62_5]
    rw [← hB]
    simp -implicitDefEqProofs only [W3, ↓D3, ↓DA, ↓DP, ↓DC, caseN, Nat.sub_zero, Int.reduceToNat, id_eq, Int.reduceBEq, Int.reduceLE, Int.reduceLT, SH, Nat.reduceAdd, Nat.reduceEqDiff, Nat.reduceLT, Nat.reduceLeDiff, Nat.reduceMul, Nat.reduceSub, reduceIte]
    try trace_state
  · rfl
def polPick (bs : List Int) (P : Draw Policy) : Bool → Draw Policy
  | true => anyPolicyD bs P.2.1 P.2.2
  | false => P
def reqPick (bs : List Int) (q : Request) (i : Nat) (h : Int) : Bool → Request
  | true => (anyRequestD bs i h).1
  | false => q
def decP0 (bs : List Int) : Draw Policy := policyD bs (caseD bs 0 (hashOf bs)).2.2.2.1 (caseD bs 0 (hashOf bs)).2.2.2.2
def decP (bs : List Int) : Draw Policy := polPick bs ((decP0 bs).1, belowI bs 10 (decP0 bs).2.1, belowH 10 (decP0 bs).2.2) (below1 bs 10 (decP0 bs).2.1 (decP0 bs).2.2 == 0)
def decQ (bs : List Int) : Request := reqPick bs (caseD bs 0 (hashOf bs)).2.2.1 (belowI bs 10 (decP bs).2.1) (belowH 10 (decP bs).2.2) (below1 bs 10 (decP bs).2.1 (decP bs).2.2 == 0)
theorem policyD_ne {bs : List Int} {i : Nat} {h : Int} : (policyD bs i h).1.rules ≠ [] := by
  have := below_lt bs (n := 4) (by omega) (by omega) (belowI bs 5 i) (belowH 5 h)
  intro h0
  have h1 := congrArg List.length h0
  unfold policyD at h1
  simp -implicitDefEqProofs only [rulesN_len, rules0, List.length_nil] at h1
  omega
theorem anyPolicyD_ne {bs : List Int} {i : Nat} {h : Int} : (anyPolicyD bs i h).1.rules ≠ [] := by
  have h0 := policyD_ne (bs := bs) (i := i) (h := h)
  unfold anyPolicyD anyPolicyN
  split
  · exact h0
  · simp
  · intro h1
    have h2 := congrArg List.length h1
    simp -implicitDefEqProofs only [rulesN_len, List.length_nil] at h2
    have : (policyD bs i h).1.rules.length ≠ 0 := fun e => h0 (List.length_eq_zero_iff.1 e)
    omega
  · exact h0
theorem finish_four0 {P : Program} {st : St} {a b c d : ResultVar} : finish P [] [a, b, c, d] 0 st = (resultsOf P st [a, b, c, d]).bind fun vs => finV (.tup vs) := finish_many0
theorem r_spec_DrawDecideBy {fl : Bool} (k : Nat) (hk : 290271069732864 + 40 ≤ k) (bs : List Int) (hb : bs.length ≤ 140737488355328) :
    run E noExt k 38 [.sl fl (bs.map byteA)] [] = some (.tup [.own 0 false 66 2 ((caseD bs 0 (hashOf bs)).1.map (Includes.enc true)), .own 1 false 70 6 ((caseD bs 0 (hashOf bs)).2.1.map (Fact.enc true)), .agg [.int .i64 (decP bs).1.version, .own 2 false 63 7 ((decP bs).1.rules.map (Rule.enc true))], (decQ bs).enc true], []) := by
  have c1 := r_spec_l1New (fl := fl) (k - 1) (by omega) bs hb
  have c2 := fun i h => r_spec_l17Case (fl := fl) (k - 1) (by omega) bs hb i h
  have c3 := fun n i h => r_spec_l1Once (fl := fl) (k - 1) (by omega) bs hb n i h
  have c5 := fun i h => r_spec_l19Policy (fl := fl) (k - 1) (by omega) bs hb i h
  have c6 := fun i h => r_spec_l19Any (fl := fl) (k - 1) (by omega) bs hb i h
  have c7 := fun i h => r_spec_l17Any (fl := fl) (k - 1) (by omega) bs hb i h
  obtain ⟨k, rfl⟩ : ∃ j, k = j + 1 := ⟨k - 1, by omega⟩
  rw [run_succ rfl rfl, body_eq (nt := 33) (fn := Go.Proofs.Tryz.f38) (by kernel_rfl) rfl rfl rfl rfl rfl rfl rfl rfl]
  simp -implicitDefEqProofs only [Nat.add_sub_cancel, enc_Request] at c1 c2 c3 c5 c6 c7
  have c4 := c2 0 (hashOf bs)
  rw [show ((0 : Nat) : Int) = 0 from rfl] at c4
  have hown : ∀ id i h, rowQ id (policyD bs i h).1.rules = .own id false 63 7 ((policyD bs i h).1.rules.map (Rule.enc true)) := fun id i h => rowQ_own policyD_ne
  have hownA : ∀ id i h, rowQ id (anyPolicyD bs i h).1.rules = .own id false 63 7 ((anyPolicyD bs i h).1.rules.map (Rule.enc true)) := fun id i h => rowQ_own anyPolicyD_ne
  simp -implicitDefEqProofs only [hown] at c5
  simp -implicitDefEqProofs only [hownA] at c6
  unfold decQ decP decP0
  generalize caseD bs 0 (hashOf bs) = C at *
  have d5 := c5 C.2.2.2.1 C.2.2.2.2
  generalize policyD bs C.2.2.2.1 C.2.2.2.2 = P at *
  cases hd : below1 bs 10 P.2.1 P.2.2 == 0
  · simp -implicitDefEqProofs only [polPick]
    cases he : below1 bs 10 (belowI bs 10 P.2.1) (belowH 10 P.2.2) == 0
    all_goals
      simp -implicitDefEqProofs only [W3, ↓D3, ↓DA, ↓DP, ↓DC, reqPick, enc_Request, hd, he, opQ_assign, finish_four0, resultsOf, resultOf, Go.Proofs.Tryz.f38, evCall_give1, c1, c3, c4, d5, c7, scals_Fact, tscals_Includes, opS_store, slidP_ptr, away_ptr, away_agg, away_F, plan_38_8, look_nil, evCall_io1, evCall_io2, evCall_io3, evCall_io4, finJ_1, finJ_2, finJ_3, finJ_4, finJ_int, finJ_bool, finJ_str, finJ_nils, finJ_agg, finJ_own, finJ_sl, finJ_tup, look_cons, reduceCtorEq, evCall_mutOwn, evCall_mutAgg, evGive, giveRows, ioBoxes, mutArgs, roArgs, handArg, mutSlots, isPtrB, pairs, pairss, back_nil, back_cons, backO, backE, setBoxes, importB, mode_mut, mode_give, mode_io, mode_ro, List.zip_cons_cons, List.zip_nil_left, List.zip_nil_right, ite_self, ite_true, ite_false, finish_give, finish_mut1, finish_io0, finish_io2, finish_io3, finish_ioc, finI, finC, finW_ptr, SH, Int.reduceToNat, id_eq, Int.reduceBEq, Int.reduceLE, Int.reduceLT, Nat.reduceAdd, Nat.reduceEqDiff, Nat.reduceLT, Nat.reduceLeDiff, Nat.reduceMul, Nat.reduceSub, reduceIte]
      try trace_state
  · simp -implicitDefEqProofs only [polPick]
    have d6 := c6 (belowI bs 10 P.2.1) (belowH 10 P.2.2)
    generalize anyPolicyD bs (belowI bs 10 P.2.1) (belowH 10 P.2.2) = P1 at *
    cases he : below1 bs 10 P1.2.1 P1.2.2 == 0
    all_goals
      simp -implicitDefEqProofs only [W3, ↓D3, ↓DA, ↓DP, ↓DC, reqPick, enc_Request, hd, he, opQ_assign, finish_four0, resultsOf, resultOf, Go.Proofs.Tryz.f38, evCall_give1, c1, c3, c4, d5, d6, c7, scals_Fact, tscals_Includes, opS_store, slidP_ptr, away_ptr, away_agg, away_F, plan_38_8, look_nil, evCall_io1, evCall_io2, evCall_io3, evCall_io4, finJ_1, finJ_2, finJ_3, finJ_4, finJ_int, finJ_bool, finJ_str, finJ_nils, finJ_agg, finJ_own, finJ_sl, finJ_tup, look_cons, reduceCtorEq, evCall_mutOwn, evCall_mutAgg, evGive, giveRows, ioBoxes, mutArgs, roArgs, handArg, mutSlots, isPtrB, pairs, pairss, back_nil, back_cons, backO, backE, setBoxes, importB, mode_mut, mode_give, mode_io, mode_ro, List.zip_cons_cons, List.zip_nil_left, List.zip_nil_right, ite_self, ite_true, ite_false, finish_give, finish_mut1, finish_io0, finish_io2, finish_io3, finish_ioc, finI, finC, finW_ptr, SH, Int.reduceToNat, id_eq, Int.reduceBEq, Int.reduceLE, Int.reduceLT, Nat.reduceAdd, Nat.reduceEqDiff, Nat.reduceLT, Nat.reduceLeDiff, Nat.reduceMul, Nat.reduceSub, reduceIte]
      try trace_state
theorem r_laws_big {fl : Bool} (k : Nat) (hk : 281474976710656 + 1 ≤ k) (bs : List Int) (hb : bs.length ≤ 140737488355328) :
    run E noExt k 17 [.sl fl (bs.map byteA)] [] = some (.bool (decide ((1048576 : Int) < (bs.length : Nat))), []) := by
  obtain ⟨k, rfl⟩ : ∃ j, k = j + 1 := ⟨k - 1, by omega⟩
  rw [run_succ rfl rfl, body_eq (nt := 6) (fn := Go.Proofs.Tryz.f17) (by kernel_rfl) rfl rfl rfl rfl rfl rfl rfl rfl]
  simp -implicitDefEqProofs only [W3, ↓D3, ↓DA, ↓DP, ↓DC, Go.Proofs.Tryz.f17, SH, Int.reduceToNat, id_eq, Int.reduceBEq, Int.reduceLE, Int.reduceLT, Nat.reduceAdd, Nat.reduceEqDiff, Nat.reduceLT, Nat.reduceLeDiff, Nat.reduceMul, Nat.reduceSub, reduceIte]
open Go.Lib
def sortUniq (zs : List Int) : List Int := compact (ascending zs)
theorem strict_ext : ∀ {xs ys : List Int}, xs.Pairwise (· < ·) → ys.Pairwise (· < ·) → (∀ x, x ∈ xs ↔ x ∈ ys) → xs = ys
  | [], [], _, _, _ => rfl
  | [], y :: ys, _, _, h => by have := (h y).2 (by simp); simp at this
  | x :: xs, [], _, _, h => by have := (h x).1 (by simp); simp at this
  | x :: xs, y :: ys, hx, hy, h => by
    rw [List.pairwise_cons] at hx hy
    have h1 : x = y := by
      have a := (h x).1 (by simp)
      have b := (h y).2 (by simp)
      rcases List.mem_cons.1 a with a | a
      · exact a
      · rcases List.mem_cons.1 b with b | b
        · exact b.symm
        · have := hx.1 y b; have := hy.1 x a; omega
    subst h1
    congr 1
    refine strict_ext hx.2 hy.2 fun z => ?_
    constructor
    · intro hz
      rcases List.mem_cons.1 ((h z).1 (by simp [hz])) with e | e
      · have := hx.1 z hz; omega
      · exact e
    · intro hz
      rcases List.mem_cons.1 ((h z).2 (by simp [hz])) with e | e
      · have := hy.1 z hz; omega
      · exact e
theorem upTo_spec {d : Array Int} (hs : ∀ i j, i ≤ j → j < d.size → d[i]! ≤ d[j]!) : ∀ m, m ≤ d.size → (compactUpTo d m).Pairwise (· < ·) ∧ ∀ x, x ∈ compactUpTo d m ↔ ∃ i, i < m ∧ d[i]! = x
  | 0, _ => ⟨by simp [compactUpTo], fun x => by simp [compactUpTo]⟩
  | m + 1, hm => by
    obtain ⟨h1, h2⟩ := upTo_spec hs m (by omega)
    rw [compactUpTo_succ]
    by_cases hk : keeps d m = true
    · rw [if_pos hk]
      refine ⟨?_, fun x => ?_⟩
      · rw [List.pairwise_append]
        refine ⟨h1, by simp, fun a ha b hb => ?_⟩
        obtain rfl := List.mem_singleton.1 hb
        obtain ⟨i, hi, rfl⟩ := (h2 a).1 ha
        have hle := hs i (m - 1) (by omega) (by omega)
        have hle2 := hs (m - 1) m (by omega) (by omega)
        simp -implicitDefEqProofs only [keeps, decide_eq_true_eq] at hk
        have := hk.resolve_left (by omega)
        omega
      · rw [List.mem_append, h2, List.mem_singleton]
        constructor
        · rintro (⟨i, hi, rfl⟩ | rfl)
          · exact ⟨i, by omega, rfl⟩
          · exact ⟨m, by omega, rfl⟩
        · rintro ⟨i, hi, rfl⟩
          by_cases e : i = m
          · exact .inr (by rw [e])
          · exact .inl ⟨i, by omega, rfl⟩
    · rw [if_neg hk, List.append_nil]
      refine ⟨h1, fun x => ?_⟩
      rw [h2]
      simp -implicitDefEqProofs only [keeps, decide_eq_true_eq, not_or, Classical.not_not] at hk
      constructor
      · rintro ⟨i, hi, rfl⟩
        exact ⟨i, by omega, rfl⟩
      · rintro ⟨i, hi, rfl⟩
        by_cases e : i = m
        · exact ⟨m - 1, by omega, by rw [e]; exact hk.2.symm⟩
        · exact ⟨i, by omega, rfl⟩
theorem ascending_sorted (zs : List Int) : (ascending zs).Pairwise (· ≤ ·) := by
  have := List.pairwise_mergeSort (le := fun x y : Int => decide (x ≤ y)) (fun a b c h1 h2 => by simp at *; omega) (fun a b => by simp; omega) zs
  exact this.imp (by simp)
theorem ascending_mem (zs : List Int) (x : Int) : x ∈ ascending zs ↔ x ∈ zs := by
  unfold ascending
  exact List.mem_mergeSort
theorem sortUniq_spec (zs : List Int) : (sortUniq zs).Pairwise (· < ·) ∧ ∀ x, x ∈ sortUniq zs ↔ x ∈ zs := by
  have hs : ∀ i j, i ≤ j → j < (ascending zs).toArray.size → (ascending zs).toArray[i]! ≤ (ascending zs).toArray[j]! := by
    intro i j hij hj
    have hj' : j < (ascending zs).length := by simpa using hj
    rw [getElem!_pos (ascending zs).toArray i (by simp; omega), getElem!_pos (ascending zs).toArray j hj]
    simp -implicitDefEqProofs only [List.getElem_toArray]
    rcases Nat.lt_or_eq_of_le hij with h | rfl
    · exact List.pairwise_iff_getElem.1 (ascending_sorted zs) i j (by omega) hj' h
    · exact Int.le_refl _
  obtain ⟨h1, h2⟩ := upTo_spec hs (ascending zs).length (by simp)
  refine ⟨h1, fun x => ?_⟩
  rw [show sortUniq zs = compactUpTo (ascending zs).toArray (ascending zs).length from rfl, h2, ← ascending_mem zs x]
  constructor
  · rintro ⟨i, hi, rfl⟩
    rw [getElem!_pos (ascending zs).toArray i (by simpa using hi)]
    simp
  · intro hx
    obtain ⟨i, hi, rfl⟩ := List.getElem_of_mem hx
    exact ⟨i, hi, by rw [getElem!_pos (ascending zs).toArray i (by simpa using hi)]; simp⟩
theorem sortUniq_eq {zs ys : List Int} (hy : ys.Pairwise (· < ·)) (h : ∀ x, x ∈ ys ↔ x ∈ zs) : sortUniq zs = ys := by
  obtain ⟨h1, h2⟩ := sortUniq_spec zs
  exact strict_ext h1 hy fun x => (h2 x).trans (h x).symm
end Go.Proofs.YtaojmienjikfbaaGreatDoor.Flat
