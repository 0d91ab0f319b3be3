/-
The draws: cases of requests and facts; policies to decide by.
-/
import Derived.Test.YtokjpncehggojaaGreatEqPH
import Derived.Test.YtokjpncehggojaaGreatEqDL
set_option linter.unusedVariables false
set_option linter.unusedSimpArgs false
set_option maxRecDepth 10000
namespace Go.Proofs.YtokjpncehggojaaGreat.Flat
theorem evCall_give1 {Φ : Phi} {nid n : Nat} {x : AV} {dst : Option Nat} {st : St} : evCall Φ [.give] nid n [x] [] dst st = evGive Φ nid n [(.give, x)] dst st := rfl
theorem opQ_assign {Φ : Phi} {nid : Nat} {x : Operand} {st : St} {dst : Option Nat} {type : TypeId} {pos : String} {after : Array Edge} {guard : Option (Nat × Bool)} :
    evOpQ E Φ nid { dst, op := .assign x, type, pos, after, guard } st = st.put dst (st.val x) := rfl
def maxI (a b : Int) : Int := if a < b then b else a
def caseSub (q : Request) (f : Fact) : Int := if (f.kind == 1) = true then q.person else if (f.kind == 2) = true then q.person else if (f.kind == 3) = true then q.device else q.program
def caseVal (q : Request) (f : Fact) : Int := if (f.kind == 1) = true then f.value else if (f.kind == 2) = true then q.device else f.value
def caseF (bs : List Int) (q : Request) (f : Fact) (i : Nat) (h : Int) : Fact :=
  ⟨f.kind, caseSub q f, caseVal q f, f.issuer, maxI 0 (IntKind.i64.wrap (q.now - below1 bs 6 i h)), IntKind.i64.wrap (q.now + below1 bs 10 (belowI bs 6 i) (belowH 6 h))⟩
def caseStep (bs : List Int) (q : Request) (b : List Fact × Nat × Int) : List Fact × Nat × Int :=
  (putS b.1 (caseF bs q (factD bs b.2.1 b.2.2).1 (factD bs b.2.1 b.2.2).2.1 (factD bs b.2.1 b.2.2).2.2), belowI bs 10 (belowI bs 6 (factD bs b.2.1 b.2.2).2.1), belowH 10 (belowH 6 (factD bs b.2.1 b.2.2).2.2))
def caseN (bs : List Int) (q : Request) (b : List Fact × Nat × Int) : Nat → List Fact × Nat × Int
  | 0 => b
  | n + 1 => caseStep bs q (caseN bs q b n)
theorem caseN_len {bs : List Int} {q : Request} {b : List Fact × Nat × Int} (hb : b.1.length ≤ 30) : ∀ n, (caseN bs q b n).1.length ≤ 30
  | 0 => hb
  | n + 1 => putS_len (caseN_len hb n)
def caseD (bs : List Int) (i : Nat) (h : Int) : List Includes × List Fact × Request × Nat × Int :=
  let P := pairsD bs i h; let S := storeD bs P.2.1 P.2.2; let Q := requestD bs S.2.1 S.2.2
  let R := caseN bs Q.1 (S.1, belowI bs 5 Q.2.1, belowH 5 Q.2.2) (below1 bs 5 Q.2.1 Q.2.2).toNat
  (P.1, R.1, Q.1, R.2.1, R.2.2)
theorem caseD_len {bs : List Int} {i : Nat} {h : Int} : (caseD bs i h).2.1.length ≤ 30 := by
  unfold caseD
  simp only
  refine caseN_len ?_ _
  exact storeD_len
theorem caseD_len1 {bs : List Int} {i : Nat} {h : Int} : (caseD bs i h).1.length ≤ 3 := pairsD_len
theorem r_spec_l17Case {fl : Bool} (k : Nat) (hk : 281474976710656 + 30 ≤ k) (bs : List Int) (hb : bs.length ≤ 140737488355328) (i : Nat) (h : Int) :
    run E noExt k 18 [.ptr 0 0] [[.sl fl (bs.map byteA), .int .i64 (i : Nat), .int .i64 h]] =
      some (.tup [.own 0 false 113 2 ((caseD bs i h).1.map (Includes.enc true)), .own 1 false 92 6 ((caseD bs i h).2.1.map (Fact.enc true)), (caseD bs i h).2.2.1.enc true], [[.sl fl (bs.map byteA), .int .i64 ((caseD bs i h).2.2.2.1 : Nat), .int .i64 (caseD bs i h).2.2.2.2]]) := by
  have c1 := fun n i h => r_spec_l1Below (fl := fl) (k - 1) (by omega) bs hb n i h
  have c2 := fun i h => r_spec_l6Fact (fl := fl) (k - 1) (by omega) bs hb i h
  have c3 := fun s hs f => r_spec_PutFact (k - 1) (by omega) s hs f
  have c5 := fun i h => r_spec_l14Pairs (fl := fl) (k - 1) (by omega) bs hb i h
  have c6 := fun i h => r_spec_l7Store (fl := fl) (k - 1) (by omega) bs hb i h
  have c7 := fun i h => r_spec_l17Request (fl := fl) (k - 1) (by omega) bs hb i h
  have c8 : ∀ a b, run E noExt (k - 1) 49 [.int .i64 a, .int .i64 b] [] = some (.int .i64 (maxI a b), []) := fun a b => r_spec_Max (k - 1) (by omega) a b
  obtain ⟨k, rfl⟩ : ∃ j, k = j + 1 := ⟨k - 1, by omega⟩
  rw [run_succ rfl rfl, body_eq (nt := 69) (fn := Go.Proofs.Tryz.f18) (by kernel_rfl) rfl rfl rfl rfl rfl rfl rfl rfl]
  simp -implicitDefEqProofs only [Nat.add_sub_cancel, enc_Fact, enc_Request] at c1 c2 c3 c5 c6 c7 c8
  unfold caseD
  simp only
  have d5 := c5 i h
  generalize hP : pairsD bs i h = P at *
  have d6 := c6 P.2.1 P.2.2
  have hS0 : (storeD bs P.2.1 P.2.2).1.length ≤ 30 := storeD_len
  generalize hS : storeD bs P.2.1 P.2.2 = S at *
  have d7 := c7 S.2.1 S.2.2
  generalize hQ : requestD bs S.2.1 S.2.2 = Q at *
  have hlt := below_lt bs (n := 5) (by omega) (by omega) Q.2.1 Q.2.2
  generalize hd : below1 bs 5 Q.2.1 Q.2.2 = d at *
  obtain ⟨m, rfl⟩ : ∃ m : Nat, d = (m : Int) := ⟨d.toNat, by omega⟩
  simp -implicitDefEqProofs only [Int.toNat_natCast]
  simp -implicitDefEqProofs only [W3, ↓D3, ↓DA, Go.Proofs.Tryz.f18, c1, d5, d6, d7, hd, scals_Fact, tscals_Includes, rows_argsR, boxes_argsR, ↓isCell_argsR, cells_argsR, cellsX_agg, cellsX_int, cellsX_bool, cellsX_str, cellsX_nils, cellsX_sl, cellsX_own, cellsX_ptr, cellsX_cptr, cellsX_undef, dedup_rowsD, nodup_rowsD, all_rowsD, all_rowsT, small_rowsD, bad_argsR, ptr_argsR, mapO_argsR, imp_argsR, lend_argsR4, shut_argsR, mem_rowsD, allmem_rowsD, after_D, freeze_ite, frzB_argsR, away_argsR, calm_argsR, opS_store, slidP_ptr, opS_call, slidM_io1, slidM_io2, away_F, away_ptr, away_int, away_bool, away_nils, away_undef, away_sl, away_agg, away_own, look_nil, evCall_io1, evCall_io2, evCall_io3, evCall_io4, finJ_1, finJ_2, finJ_3, finJ_4, finJ_int, finJ_bool, finJ_str, finJ_nils, finJ_agg, finJ_own, finJ_sl, finJ_tup, look_cons, reduceCtorEq, evCall_mutOwn, evCall_mutAgg, evGive, giveRows, ioBoxes, mutArgs, roArgs, handArg, mutSlots, isPtrB, pairs, pairss, back_nil, back_cons, backO, backE, setBoxes, importB, mode_mut, mode_give, mode_io, mode_ro, List.zip_cons_cons, List.zip_nil_left, List.zip_nil_right, ite_self, ite_true, ite_false, finish_give, finish_mut1, finish_io0, finish_io2, finish_io3, finish_ioc, finI, finC, finW_ptr, SH, noref, isRef, isPtr, noPtr, isBad, AV.isUndef, Int.reduceToNat, id_eq, Int.reduceBEq, Int.reduceLE, Int.reduceLT, AV.cells, AV.isCell, Value.cells, Nat.reduceAdd, Nat.reduceEqDiff, Nat.reduceLT, Nat.reduceLeDiff, Nat.reduceMul, Nat.reduceSub, reduceIte]
  rw [ev_loop]
  generalize hB : (S.1, belowI bs 5 Q.2.1, belowH 5 Q.2.2) = B0 at *
  refine Eq.trans (loop_list (Q := fun (_ : Unit) x => thenEnd E.P _ _ 1 (thenEv E _ _ _ _ _ (outOf 0 x)) = some (.tup [.own 0 false 113 2 (P.1.map (Includes.enc true)), .own 1 false 92 6 ((caseN bs Q.1 B0 m).1.map (Fact.enc true)), .agg [.int .i64 Q.1.person, .int .i64 Q.1.device, .int .i64 Q.1.program, .int .i64 Q.1.action, .int .i64 Q.1.object, .int .i64 Q.1.now]], [[.sl fl (bs.map byteA), .int .i64 ((caseN bs Q.1 B0 m).2.1 : Nat), .int .i64 (caseN bs Q.1 B0 m).2.2]])) (List.range m) (fun _ _ _ => .inr ()) id
    (fun j _ => { sl := [(0, .ptr 0 0), (4, .ptr 1 0), (5, .own 0 false 113 2 (P.1.map (Includes.enc true))), (6, .own 1 false 92 6 ((caseN bs Q.1 B0 j).1.map (Fact.enc true))), (7, .ptr 2 0), (8, .int .i64 (((m - j : Nat) : Int)))], bx := [(0, [.sl fl (bs.map byteA), .int .i64 ((caseN bs Q.1 B0 j).2.1 : Nat), .int .i64 (caseN bs Q.1 B0 j).2.2]), (1, [.int .i64 0, .int .i64 0, .int .i64 0, .int .i64 0, .int .i64 0, .int .i64 0]), (2, [.int .i64 Q.1.person, .int .i64 Q.1.device, .int .i64 Q.1.program, .int .i64 Q.1.action, .int .i64 Q.1.object, .int .i64 Q.1.now])], nx := 5, nt := 69 }) (fun _ _ => True) () ?_ ?_ (by simp; omega) trivial ?_) ?_
  · intro _ _
    rw [List.length_range, Nat.sub_self]
    have h0 : ¬ (0 : Int) < ((0 : Nat) : Int) := by omega
    simp -implicitDefEqProofs only [W3, ↓D3, ↓DA, ↓DP, ↓DC, QX, h0, opQ_assign, finish_manyI, resultsOf, resultOf, plan_18_17, plan_18_18, plan_18_20, look_nil, evCall_io1, evCall_io2, evCall_io3, evCall_io4, finJ_1, finJ_2, finJ_3, finJ_4, finJ_int, finJ_bool, finJ_str, finJ_nils, finJ_agg, finJ_own, finJ_sl, finJ_tup, look_cons, reduceCtorEq, evCall_mutOwn, evCall_mutAgg, evGive, giveRows, ioBoxes, mutArgs, roArgs, handArg, mutSlots, isPtrB, pairs, pairss, back_nil, back_cons, backO, backE, setBoxes, importB, mode_mut, mode_give, mode_io, mode_ro, List.zip_cons_cons, List.zip_nil_left, List.zip_nil_right, ite_self, ite_true, ite_false, finish_give, finish_mut1, finish_io0, finish_io2, finish_io3, finish_ioc, finI, finC, finW_ptr, SH, leaf_some, isNormal, Int.reduceToNat, id_eq, Int.reduceBEq, Int.reduceLE, Int.reduceLT, Nat.reduceAdd, Nat.reduceEqDiff, Nat.reduceLT, Nat.reduceLeDiff, Nat.reduceMul, Nat.reduceSub, reduceIte]
    try trace_state
  · intro pre z r _ hs' _
    have hpl : pre.length < m := by have := congrArg List.length hs'; simp at this; omega
    clear hs'
    have hp0 : (0 : Int) < ((m - pre.length : Nat) : Int) := by omega
    have hw1 : IntKind.i64.wrap (((m - pre.length : Nat) : Int) - 1) = ((m - (pre.length + 1) : Nat) : Int) := by rw [IntWalk.i64_in _ (by omega)]; omega
    have hst := caseN_len (bs := bs) (q := Q.1) (b := B0) (by rw [← hB]; exact hS0) pre.length
    simp -implicitDefEqProofs only [caseN]
    generalize caseN bs Q.1 B0 pre.length = b at *
    have c4 := c3 b.1 (by omega) (caseF bs Q.1 (factD bs b.2.1 b.2.2).1 (factD bs b.2.1 b.2.2).2.1 (factD bs b.2.1 b.2.2).2.2)
    have d2 := c2 b.2.1 b.2.2
    simp -implicitDefEqProofs only [caseStep]
    generalize factD bs b.2.1 b.2.2 = F at *
    generalize hY : putS b.1 (caseF bs Q.1 F.1 F.2.1 F.2.2) = Y at *
    simp -implicitDefEqProofs only [caseF, caseSub, caseVal] at c4
    rcases five (!(F.1.kind == 1)) (F.1.kind == 2) (!(F.1.kind == 3)) true with hk1 | ⟨hk1, hk2⟩ | ⟨hk1, hk2, hk3⟩ | ⟨hk1, hk2, hk3, _⟩ | ⟨_, _, _, hk4⟩
    · rw [Bool.not_eq_false'] at hk1
      simp -implicitDefEqProofs only [hk1, if_true] at c4
      simp -implicitDefEqProofs only [W3, ↓D3, ↓DA, ↓DP, ↓DC, QX, hp0, hw1, hk1, c1, d2, c4, c8, opS_call, slidM_io2, away_ptr, away_int, away_F, scals_Fact, shuts_Fact, plan_18_17, plan_18_18, plan_18_20, look_nil, evCall_io1, evCall_io2, evCall_io3, evCall_io4, finJ_1, finJ_2, finJ_3, finJ_4, finJ_int, finJ_bool, finJ_str, finJ_nils, finJ_agg, finJ_own, finJ_sl, finJ_tup, look_cons, reduceCtorEq, evCall_mutOwn, evCall_mutAgg, evGive, giveRows, ioBoxes, mutArgs, roArgs, handArg, mutSlots, isPtrB, pairs, pairss, back_nil, back_cons, backO, backE, setBoxes, importB, mode_mut, mode_give, mode_io, mode_ro, List.zip_cons_cons, List.zip_nil_left, List.zip_nil_right, ite_self, ite_true, ite_false, finish_give, finish_mut1, finish_io0, finish_io2, finish_io3, finish_ioc, finI, finC, finW_ptr, SH, keep_18_5, leaf_some, isNormal, Int.reduceToNat, id_eq, Int.reduceBEq, Int.reduceLE, Int.reduceLT, Nat.reduceAdd, Nat.reduceEqDiff, Nat.reduceLT, Nat.reduceLeDiff, Nat.reduceMul, Nat.reduceSub, reduceIte]
      try trace_state
    · rw [Bool.not_eq_true'] at hk1
      simp -implicitDefEqProofs only [hk1, hk2, Bool.false_eq_true, if_false, if_true] at c4
      simp -implicitDefEqProofs only [W3, ↓D3, ↓DA, ↓DP, ↓DC, QX, hp0, hw1, hk1, hk2, c1, d2, c4, c8, opS_call, slidM_io2, away_ptr, away_int, away_F, scals_Fact, shuts_Fact, plan_18_17, plan_18_18, plan_18_20, look_nil, evCall_io1, evCall_io2, evCall_io3, evCall_io4, finJ_1, finJ_2, finJ_3, finJ_4, finJ_int, finJ_bool, finJ_str, finJ_nils, finJ_agg, finJ_own, finJ_sl, finJ_tup, look_cons, reduceCtorEq, evCall_mutOwn, evCall_mutAgg, evGive, giveRows, ioBoxes, mutArgs, roArgs, handArg, mutSlots, isPtrB, pairs, pairss, back_nil, back_cons, backO, backE, setBoxes, importB, mode_mut, mode_give, mode_io, mode_ro, List.zip_cons_cons, List.zip_nil_left, List.zip_nil_right, ite_self, ite_true, ite_false, finish_give, finish_mut1, finish_io0, finish_io2, finish_io3, finish_ioc, finI, finC, finW_ptr, SH, keep_18_5, leaf_some, isNormal, Int.reduceToNat, id_eq, Int.reduceBEq, Int.reduceLE, Int.reduceLT, Nat.reduceAdd, Nat.reduceEqDiff, Nat.reduceLT, Nat.reduceLeDiff, Nat.reduceMul, Nat.reduceSub, reduceIte]
      try trace_state
    · rw [Bool.not_eq_true'] at hk1
      rw [Bool.not_eq_false'] at hk3
      simp -implicitDefEqProofs only [hk1, hk2, hk3, Bool.false_eq_true, if_false, if_true] at c4
      simp -implicitDefEqProofs only [W3, ↓D3, ↓DA, ↓DP, ↓DC, QX, hp0, hw1, hk1, hk2, hk3, c1, d2, c4, c8, opS_call, slidM_io2, away_ptr, away_int, away_F, scals_Fact, shuts_Fact, plan_18_17, plan_18_18, plan_18_20, look_nil, evCall_io1, evCall_io2, evCall_io3, evCall_io4, finJ_1, finJ_2, finJ_3, finJ_4, finJ_int, finJ_bool, finJ_str, finJ_nils, finJ_agg, finJ_own, finJ_sl, finJ_tup, look_cons, reduceCtorEq, evCall_mutOwn, evCall_mutAgg, evGive, giveRows, ioBoxes, mutArgs, roArgs, handArg, mutSlots, isPtrB, pairs, pairss, back_nil, back_cons, backO, backE, setBoxes, importB, mode_mut, mode_give, mode_io, mode_ro, List.zip_cons_cons, List.zip_nil_left, List.zip_nil_right, ite_self, ite_true, ite_false, finish_give, finish_mut1, finish_io0, finish_io2, finish_io3, finish_ioc, finI, finC, finW_ptr, SH, keep_18_5, leaf_some, isNormal, Int.reduceToNat, id_eq, Int.reduceBEq, Int.reduceLE, Int.reduceLT, Nat.reduceAdd, Nat.reduceEqDiff, Nat.reduceLT, Nat.reduceLeDiff, Nat.reduceMul, Nat.reduceSub, reduceIte]
      try trace_state
    · rw [Bool.not_eq_true'] at hk1 hk3
      simp -implicitDefEqProofs only [hk1, hk2, hk3, Bool.false_eq_true, if_false] at c4
      simp -implicitDefEqProofs only [W3, ↓D3, ↓DA, ↓DP, ↓DC, QX, hp0, hw1, hk1, hk2, hk3, c1, d2, c4, c8, opS_call, slidM_io2, away_ptr, away_int, away_F, scals_Fact, shuts_Fact, plan_18_17, plan_18_18, plan_18_20, look_nil, evCall_io1, evCall_io2, evCall_io3, evCall_io4, finJ_1, finJ_2, finJ_3, finJ_4, finJ_int, finJ_bool, finJ_str, finJ_nils, finJ_agg, finJ_own, finJ_sl, finJ_tup, look_cons, reduceCtorEq, evCall_mutOwn, evCall_mutAgg, evGive, giveRows, ioBoxes, mutArgs, roArgs, handArg, mutSlots, isPtrB, pairs, pairss, back_nil, back_cons, backO, backE, setBoxes, importB, mode_mut, mode_give, mode_io, mode_ro, List.zip_cons_cons, List.zip_nil_left, List.zip_nil_right, ite_self, ite_true, ite_false, finish_give, finish_mut1, finish_io0, finish_io2, finish_io3, finish_ioc, finI, finC, finW_ptr, SH, keep_18_5, leaf_some, isNormal, Int.reduceToNat, id_eq, Int.reduceBEq, Int.reduceLE, Int.reduceLT, Nat.reduceAdd, Nat.reduceEqDiff, Nat.reduceLT, Nat.reduceLeDiff, Nat.reduceMul, Nat.reduceSub, reduceIte]
      try trace_state
    · simp at hk4
  · simp -implicitDefEqProofs only [firstRegion]
    rw [keep_18_5]
    rw [← hB]
    simp -implicitDefEqProofs only [W3, ↓D3, ↓DA, ↓DP, ↓DC, caseN, Nat.sub_zero, Int.reduceToNat, id_eq, Int.reduceBEq, Int.reduceLE, Int.reduceLT, SH, Nat.reduceAdd, Nat.reduceEqDiff, Nat.reduceLT, Nat.reduceLeDiff, Nat.reduceMul, Nat.reduceSub, reduceIte]
    try trace_state
  · rfl
theorem policyD_ne {bs : List Int} {i : Nat} {h : Int} : (policyD bs i h).1.rules ≠ [] := by
  have := below_lt bs (n := 4) (by omega) (by omega) (belowI bs 5 i) (belowH 5 h)
  intro h0
  have h1 := congrArg List.length h0
  unfold policyD at h1
  simp -implicitDefEqProofs only [rulesN_len, rules0, List.length_nil] at h1
  omega
theorem finish_four0 {P : Program} {st : St} {a b c d : ResultVar} : finish P [] [a, b, c, d] 0 st = (resultsOf P st [a, b, c, d]).bind fun vs => finV (.tup vs) := finish_many0
theorem r_laws_big {fl : Bool} (k : Nat) (hk : 281474976710656 + 1 ≤ k) (bs : List Int) (hb : bs.length ≤ 140737488355328) :
    run E noExt k 4 [.sl fl (bs.map byteA)] [] = some (.bool (decide ((1048576 : Int) < (bs.length : Nat))), []) := by
  obtain ⟨k, rfl⟩ : ∃ j, k = j + 1 := ⟨k - 1, by omega⟩
  rw [run_succ rfl rfl, body_eq (nt := 6) (fn := Go.Proofs.Tryz.f4) (by kernel_rfl) rfl rfl rfl rfl rfl rfl rfl rfl]
  simp -implicitDefEqProofs only [W3, ↓D3, ↓DA, ↓DP, ↓DC, Go.Proofs.Tryz.f4, SH, Int.reduceToNat, id_eq, Int.reduceBEq, Int.reduceLE, Int.reduceLT, Nat.reduceAdd, Nat.reduceEqDiff, Nat.reduceLT, Nat.reduceLeDiff, Nat.reduceMul, Nat.reduceSub, reduceIte]
def rowR (id : Nat) : List AV → AV
  | [] => .nils
  | v :: vs => .own id false 42 7 (v :: vs)
theorem rowR_nil {id : Nat} : rowR id [] = .nils := rfl
theorem rowR_ne {id : Nat} {vs : List AV} (h : vs ≠ []) : rowR id vs = .own id false 42 7 vs := by cases vs with | nil => exact absurd rfl h | cons => rfl
theorem r_spec_l19Copy {fl : Bool} (k : Nat) (hk : 290271069732864 + 4 ≤ k) (p : Policy) (hw0 : p.w ≤ 1099511627776) :
    run E noExt k 38 [p.enc fl] [] = some (.agg [.int .i64 p.version, rowR 0 (p.rules.map Rule.tencN)], []) := by
  have hw : wl Rule.w p.rules ≤ 1099511627776 := hw0
  have hs1 := wl_length Rule.w p.rules
  have hs : p.rules.length ≤ 140737488355328 := by omega
  have cc := fun (c : Rule) (hc : c ∈ p.rules) => r_spec_l15Copy (fl := fl) (k - 1) (by omega) c.cond (by have := wl_mem (w := Rule.w) hc; have hw : c.w = c.cond.w := rfl; omega)
  unfold Cond.copyAV at cc
  obtain ⟨k, rfl⟩ : ∃ j, k = j + 1 := ⟨k - 1, by omega⟩
  rw [run_succ rfl rfl, body_eq (nt := 36) (fn := Go.Proofs.Tryz.f38) (by kernel_rfl) rfl rfl rfl rfl rfl rfl rfl rfl]
  simp -implicitDefEqProofs only [Nat.add_sub_cancel, enc_Cond] at cc
  simp -implicitDefEqProofs only [W4, ↓D4, ↓DA, ↓DP, ↓DC, Go.Proofs.Tryz.f38, enc_Policy, SH, dedup, nodupB, idx, AV.rows, AV.rowss, AV.mapO, AV.mapOs, Int.reduceToNat, id_eq, Int.reduceBEq, Int.reduceLE, Int.reduceLT, Nat.reduceAdd, Nat.reduceEqDiff, Nat.reduceLT, Nat.reduceLeDiff, Nat.reduceMul, Nat.reduceSub, reduceIte]
  rw [ev_loop]
  refine loop_list (Q := fun (_ : Unit) z => thenEnd E.P [] _ 0 (thenEv E _ _ _ _ _ (outOf 0 z)) = some (.agg [.int .i64 p.version, rowR 0 (p.rules.map Rule.tencN)], [])) p.rules (fun _ _ _ => .inr ()) id
    (fun i _ => { sl := [(1, .ptr 0 0), (2, .ptr 1 0), (3, .ptr 2 0), (4, .int .i64 (i : Nat))], bx := [(0, [.int .i64 p.version, .sl fl (p.rules.map (Rule.enc fl))]), (1, [.int .i64 0, .nils]), (2, [.int .i64 p.version, rowR 0 ((p.rules.take i).map Rule.tencN)])], nx := (AV.rows (rowR 0 ((p.rules.take i).map Rule.tencN))).length + 3, nt := 36, tree := true }) (fun _ _ => True) () ?_ ?_ ?_ trivial ?_
  · intro _ _
    rcases Classical.em (p.rules = []) with h | h
    · simp -implicitDefEqProofs only [h, List.take_nil, List.map_nil, rowR_nil, List.length_nil]
      simp -implicitDefEqProofs only [W3, ↓D3, ↓DA, ↓DP, ↓DC, QX, SH, leaf_some, isNormal, Int.reduceToNat, id_eq, Int.reduceBEq, Int.reduceLE, Int.reduceLT, Nat.reduceAdd, Nat.reduceEqDiff, Nat.reduceLT, Nat.reduceLeDiff, Nat.reduceMul, Nat.reduceSub, reduceIte]
      repeat' (split <;> (rename_i h; (try simp -implicitDefEqProofs only [Bool.not_eq_true', Bool.not_eq_false', decide_eq_true_eq, decide_eq_false_iff_not] at h); (try simp -implicitDefEqProofs only [W3, ↓D3, ↓DA, ↓DP, ↓DC, QX, *, SH, leaf_some, isNormal, Int.reduceToNat, id_eq, Int.reduceBEq, Int.reduceLE, Int.reduceLT, Nat.reduceAdd, Nat.reduceEqDiff, Nat.reduceLT, Nat.reduceLeDiff, Nat.reduceMul, Nat.reduceSub, reduceIte])))
    · have h' : p.rules.map Rule.tencN ≠ [] := fun e => h (List.map_eq_nil_iff.1 e)
      rw [List.take_length]
      simp -implicitDefEqProofs only [rowR_ne h']
      simp -implicitDefEqProofs only [W3, ↓D3, ↓DA, ↓DP, ↓DC, QX, SH, leaf_some, isNormal, Int.reduceToNat, id_eq, Int.reduceBEq, Int.reduceLE, Int.reduceLT, Nat.reduceAdd, Nat.reduceEqDiff, Nat.reduceLT, Nat.reduceLeDiff, Nat.reduceMul, Nat.reduceSub, reduceIte]
      repeat' (split <;> (rename_i h; (try simp -implicitDefEqProofs only [Bool.not_eq_true', Bool.not_eq_false', decide_eq_true_eq, decide_eq_false_iff_not] at h); (try simp -implicitDefEqProofs only [W3, ↓D3, ↓DA, ↓DP, ↓DC, QX, *, SH, leaf_some, isNormal, Int.reduceToNat, id_eq, Int.reduceBEq, Int.reduceLE, Int.reduceLT, Nat.reduceAdd, Nat.reduceEqDiff, Nat.reduceLT, Nat.reduceLeDiff, Nat.reduceMul, Nat.reduceSub, reduceIte])))
  · intro pre c r _ hs' _
    have hx := (at_row hs' hs).1; have hc := (at_row hs' hs).2.1; have hlt := (at_row hs' hs).2.2.1; have hw1 := (at_row hs' hs).2.2.2.1; have hl9 := (at_row hs' hs).2.2.2.2
    obtain ⟨ht1, ht2⟩ := take_row hs'
    have hpre : pre.length + 1 ≤ p.rules.length := by omega
    clear hs'
    have c2 := cc c hc
    have hm1 : (pre.length + 1) * 72 ≤ 140737488355328 := by omega
    have hm2 : pre.length + 1 ≤ 9223372036854775807 := by omega
    have hm9 : pre.length ≤ 9223372036854775806 := by omega
    have hsc := tscals_N c.cond.args
    rw [ht1, ht2, List.map_append]
    have hne : pre.map Rule.tencN ++ [c].map Rule.tencN ≠ [] := by simp
    simp -implicitDefEqProofs only [rowR_ne hne]
    have hel : [c].map Rule.tencN = [.agg [.int .i64 c.effect, .int .i64 c.action, .int .i64 c.object, .int .i64 c.cond.op, .int .i64 c.cond.a, .int .i64 c.cond.b, cellN (c.cond.args.map Cond.tencN)]] := rfl
    rw [hel]
    rcases Classical.em (c.cond.args.map Cond.tencN = []) with h2 | h2
    · rw [h2] at c2
      simp -implicitDefEqProofs only [rowN_nil] at c2
      rw [h2, cellN_nil]
      rcases Classical.em (pre.map Rule.tencN = []) with h1 | h1
      · rw [h1]
        simp -implicitDefEqProofs only [rowR_nil, List.nil_append]
        simp -implicitDefEqProofs only [W3, ↓D3, ↓DA, ↓DP, ↓DC, QX, enc_Rule, hx, hlt, hw1, c2, hsc, SH, keep_38_3, leaf_some, isNormal, Int.reduceToNat, id_eq, Int.reduceBEq, Int.reduceLE, Int.reduceLT, Nat.reduceAdd, Nat.reduceEqDiff, Nat.reduceLT, Nat.reduceLeDiff, Nat.reduceMul, Nat.reduceSub, reduceIte]
        repeat' (split <;> (rename_i h; (try simp -implicitDefEqProofs only [Bool.not_eq_true', Bool.not_eq_false', decide_eq_true_eq, decide_eq_false_iff_not] at h); (try simp -implicitDefEqProofs only [W3, ↓D3, ↓DA, ↓DP, ↓DC, QX, *, enc_Rule, hx, hlt, hw1, c2, hsc, SH, keep_38_3, leaf_some, isNormal, Int.reduceToNat, id_eq, Int.reduceBEq, Int.reduceLE, Int.reduceLT, Nat.reduceAdd, Nat.reduceEqDiff, Nat.reduceLT, Nat.reduceLeDiff, Nat.reduceMul, Nat.reduceSub, reduceIte])))
      · simp -implicitDefEqProofs only [rowR_ne h1]
        simp -implicitDefEqProofs only [W3, ↓D3, ↓DA, ↓DP, ↓DC, QX, enc_Rule, hx, hlt, hw1, c2, hsc, hm1, hm2, hm9, SH, keep_38_3, leaf_some, isNormal, Int.reduceToNat, id_eq, Int.reduceBEq, Int.reduceLE, Int.reduceLT, Nat.reduceAdd, Nat.reduceEqDiff, Nat.reduceLT, Nat.reduceLeDiff, Nat.reduceMul, Nat.reduceSub, reduceIte]
        repeat' (split <;> (rename_i h; (try simp -implicitDefEqProofs only [Bool.not_eq_true', Bool.not_eq_false', decide_eq_true_eq, decide_eq_false_iff_not] at h); (try simp -implicitDefEqProofs only [W3, ↓D3, ↓DA, ↓DP, ↓DC, QX, *, enc_Rule, hx, hlt, hw1, c2, hsc, hm1, hm2, hm9, SH, keep_38_3, leaf_some, isNormal, Int.reduceToNat, id_eq, Int.reduceBEq, Int.reduceLE, Int.reduceLT, Nat.reduceAdd, Nat.reduceEqDiff, Nat.reduceLT, Nat.reduceLeDiff, Nat.reduceMul, Nat.reduceSub, reduceIte])))
    · simp -implicitDefEqProofs only [rowN_ne h2] at c2
      rw [cellN_ne h2]
      rcases Classical.em (pre.map Rule.tencN = []) with h1 | h1
      · rw [h1]
        simp -implicitDefEqProofs only [rowR_nil, List.nil_append]
        simp -implicitDefEqProofs only [W3, ↓D3, ↓DA, ↓DP, ↓DC, QX, enc_Rule, hx, hlt, hw1, c2, hsc, SH, keep_38_3, leaf_some, isNormal, Int.reduceToNat, id_eq, Int.reduceBEq, Int.reduceLE, Int.reduceLT, Nat.reduceAdd, Nat.reduceEqDiff, Nat.reduceLT, Nat.reduceLeDiff, Nat.reduceMul, Nat.reduceSub, reduceIte]
        repeat' (split <;> (rename_i h; (try simp -implicitDefEqProofs only [Bool.not_eq_true', Bool.not_eq_false', decide_eq_true_eq, decide_eq_false_iff_not] at h); (try simp -implicitDefEqProofs only [W3, ↓D3, ↓DA, ↓DP, ↓DC, QX, *, enc_Rule, hx, hlt, hw1, c2, hsc, SH, keep_38_3, leaf_some, isNormal, Int.reduceToNat, id_eq, Int.reduceBEq, Int.reduceLE, Int.reduceLT, Nat.reduceAdd, Nat.reduceEqDiff, Nat.reduceLT, Nat.reduceLeDiff, Nat.reduceMul, Nat.reduceSub, reduceIte])))
      · simp -implicitDefEqProofs only [rowR_ne h1]
        simp -implicitDefEqProofs only [W3, ↓D3, ↓DA, ↓DP, ↓DC, QX, enc_Rule, hx, hlt, hw1, c2, hsc, hm1, hm2, hm9, SH, keep_38_3, leaf_some, isNormal, Int.reduceToNat, id_eq, Int.reduceBEq, Int.reduceLE, Int.reduceLT, Nat.reduceAdd, Nat.reduceEqDiff, Nat.reduceLT, Nat.reduceLeDiff, Nat.reduceMul, Nat.reduceSub, reduceIte]
        repeat' (split <;> (rename_i h; (try simp -implicitDefEqProofs only [Bool.not_eq_true', Bool.not_eq_false', decide_eq_true_eq, decide_eq_false_iff_not] at h); (try simp -implicitDefEqProofs only [W3, ↓D3, ↓DA, ↓DP, ↓DC, QX, *, enc_Rule, hx, hlt, hw1, c2, hsc, hm1, hm2, hm9, SH, keep_38_3, leaf_some, isNormal, Int.reduceToNat, id_eq, Int.reduceBEq, Int.reduceLE, Int.reduceLT, Nat.reduceAdd, Nat.reduceEqDiff, Nat.reduceLT, Nat.reduceLeDiff, Nat.reduceMul, Nat.reduceSub, reduceIte])))
  · omega
  · simp -implicitDefEqProofs only [firstRegion]
    rw [keep_38_3]
    simp -implicitDefEqProofs only [W3, ↓D3, ↓DA, ↓DP, ↓DC, rowR_nil, Int.reduceToNat, id_eq, Int.reduceBEq, Int.reduceLE, Int.reduceLT, SH, Nat.reduceAdd, Nat.reduceEqDiff, Nat.reduceLT, Nat.reduceLeDiff, Nat.reduceMul, Nat.reduceSub, reduceIte]
end Go.Proofs.YtokjpncehggojaaGreat.Flat
