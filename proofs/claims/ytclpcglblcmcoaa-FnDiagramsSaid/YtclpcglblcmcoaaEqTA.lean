/-
The draws: a diagram and values; a table.
-/
import Derived.Test.YtclpcglblcmcoaaEqPF
import Derived.Test.YtclpcglblcmcoaaEqR
import Derived.Test.YtclpcglblcmcoaaEqFA
import Derived.Test.YtclpcglblcmcoaaEqDR
set_option linter.unusedVariables false
set_option linter.unusedSimpArgs false
set_option maxRecDepth 10000
namespace Go.Proofs.Ytclpcglblcmcoaa.Flat
theorem evCall_giveD {Φ : Phi} {nid n : Nat} {x : AV} {dst : Option Nat} {st : St} : evCall Φ [.give] nid n [x] [] dst st = evGive Φ nid n [(.give, x)] dst st := rfl
noncomputable def ansD (bs : List Int) : Diagram := (anyDia bs 0 (hashOf bs)).1
noncomputable def ansV (bs : List Int) : List Bool := (tabN bs 2 ([], belowI bs 6 (anyDia bs 0 (hashOf bs)).2.1, belowH 6 (anyDia bs 0 (hashOf bs)).2.2) (below1 bs 6 (anyDia bs 0 (hashOf bs)).2.1 (anyDia bs 0 (hashOf bs)).2.2).toNat).1
theorem ansD_len {bs : List Int} : (ansD bs).nodes.length ≤ 64 := anyDia_len
theorem ansV_len {bs : List Int} : (ansV bs).length ≤ 5 := by
  have := below_lt bs (n := 6) (by omega) (by omega) (anyDia bs 0 (hashOf bs)).2.1 (anyDia bs 0 (hashOf bs)).2.2
  unfold ansV
  rw [tabN_len]
  simp -implicitDefEqProofs only [List.length_nil]
  omega
set_option maxHeartbeats 4000000 in
theorem r_spec_DrawAnswerOf {fl : Bool} (k : Nat) (hk : 281474976710656 + 50 ≤ k) (bs : List Int) (hb : bs.length ≤ 140737488355328) :
    run E noExt k 10 [.sl fl (bs.map byteA)] [] = some (.tup [(ansD bs).encN, .own (rowsL (ansD bs).nodes) false 4 1 ((ansV bs).map AV.bool)], []) := by
  have c1 := r_spec_l1New (fl := fl) (k - 1) (by omega) bs hb
  have c2 := fun i h => r_spec_l21Any (fl := fl) (k - 1) (by omega) bs hb i h
  have c3 := fun n i h => r_spec_l1Below (fl := fl) (k - 1) (by omega) bs hb n i h
  have c4 := fun n i h => r_spec_l1Once (fl := fl) (k - 1) (by omega) bs hb n i h
  have hl0 := ansD_len (bs := bs)
  obtain ⟨k, rfl⟩ : ∃ j, k = j + 1 := ⟨k - 1, by omega⟩
  rw [run_succ rfl rfl, body_eq (nt := 26) (fn := Go.Proofs.Try.f10) (by kernel_rfl) rfl rfl rfl rfl rfl rfl rfl rfl]
  simp -implicitDefEqProofs only [Nat.add_sub_cancel] at c1 c2 c3 c4
  have c5 := c2 0 (hashOf bs)
  rw [show ((0 : Nat) : Int) = 0 from rfl] at c5
  unfold ansD at hl0 ⊢
  unfold ansV
  clear c2
  generalize anyDia bs 0 (hashOf bs) = D at *
  obtain ⟨d, i1, h1⟩ := D
  simp only at c5 hl0 ⊢
  have hlt := below_lt bs (n := 6) (by omega) (by omega) i1 h1
  generalize hr : below1 bs 6 i1 h1 = r at *
  obtain ⟨m, rfl⟩ : ∃ m : Nat, r = (m : Int) := ⟨r.toNat, by omega⟩
  simp -implicitDefEqProofs only [Int.toNat_natCast]
  unfold Diagram.encN at c5 ⊢
  rcases Classical.em (d.nodes = []) with e | e
  · rw [e, encR_nil] at c5
    rw [e, encR_nil, rowsL_nil]
    simp -implicitDefEqProofs only [W3, ↓D3, ↓DA, ↓DP, ↓DC, evCall_giveD, Go.Proofs.Try.f10, c1, c3, c4, c5, hr, look_nil, evCall_io1, evCall_io2, evCall_io3, evCall_io4, finJ_1, finJ_2, finJ_3, finJ_4, finJ_int, finJ_bool, finJ_str, finJ_nils, finJ_agg, finJ_own, finJ_sl, finJ_tup, look_cons, reduceCtorEq, evCall_mutOwn, evCall_mutAgg, evGive, giveRows, ioBoxes, mutArgs, roArgs, handArg, mutSlots, isPtrB, pairs, pairss, back_nil, back_cons, backO, backE, setBoxes, importB, mode_mut, mode_give, mode_io, mode_ro, List.zip_cons_cons, List.zip_nil_left, List.zip_nil_right, ite_self, ite_true, ite_false, finish_give, finish_mut1, finish_io0, finish_io2, finish_io3, finish_ioc, finI, finC, finW_ptr, SH, Int.reduceToNat, id_eq, Int.reduceBEq, Int.reduceLE, Int.reduceLT, Nat.reduceAdd, Nat.reduceEqDiff, Nat.reduceLT, Nat.reduceLeDiff, Nat.reduceMul, Nat.reduceSub, reduceIte]
    rw [ev_loop]
    refine Eq.trans (loop_list (Q := fun (_ : Unit) x => thenEnd E.P _ _ 0 (thenEv E _ _ _ _ _ (outOf 0 x)) = some (.tup [.agg [.int .i64 d.atoms, .nils, .int .i64 d.root], .own 0 false 4 1 ((tabN bs 2 ([], belowI bs 6 i1, belowH 6 h1) m).1.map AV.bool)], [])) (List.range m) (fun _ _ _ => .inr ()) id
      (fun j _ => { sl := [(2, .ptr 0 0), (4, .ptr 1 0), (5, .ptr 2 0), (6, .own 0 false 4 1 ((tabN bs 2 ([], belowI bs 6 i1, belowH 6 h1) j).1.map AV.bool)), (7, .int .i64 (((m - j : Nat) : Int)))], bx := [(0, [.int .i64 0, .nils, .int .i64 0]), (1, [.sl fl (bs.map byteA), .int .i64 ((tabN bs 2 ([], belowI bs 6 i1, belowH 6 h1) j).2.1 : Nat), .int .i64 (tabN bs 2 ([], belowI bs 6 i1, belowH 6 h1) j).2.2]), (2, [.int .i64 d.atoms, .nils, .int .i64 d.root])], nx := 4, nt := 26 }) (fun _ _ => True) () ?_ ?_ (by simp; omega) trivial ?_) ?_
    · intro _ _
      rw [List.length_range, Nat.sub_self]
      have h0 : ¬ (0 : Int) < ((0 : Nat) : Int) := by omega
      simp -implicitDefEqProofs only [W3, ↓D3, ↓DA, ↓DP, ↓DC, QX, h0, finish_many0, resultsOf, resultOf, scals_Choice, look_nil, evCall_io1, evCall_io2, evCall_io3, evCall_io4, finJ_1, finJ_2, finJ_3, finJ_4, finJ_int, finJ_bool, finJ_str, finJ_nils, finJ_agg, finJ_own, finJ_sl, finJ_tup, look_cons, reduceCtorEq, evCall_mutOwn, evCall_mutAgg, evGive, giveRows, ioBoxes, mutArgs, roArgs, handArg, mutSlots, isPtrB, pairs, pairss, back_nil, back_cons, backO, backE, setBoxes, importB, mode_mut, mode_give, mode_io, mode_ro, List.zip_cons_cons, List.zip_nil_left, List.zip_nil_right, ite_self, ite_true, ite_false, finish_give, finish_mut1, finish_io0, finish_io2, finish_io3, finish_ioc, finI, finC, finW_ptr, SH, leaf_some, isNormal, Int.reduceToNat, id_eq, Int.reduceBEq, Int.reduceLE, Int.reduceLT, Nat.reduceAdd, Nat.reduceEqDiff, Nat.reduceLT, Nat.reduceLeDiff, Nat.reduceMul, Nat.reduceSub, reduceIte]
      repeat' (split <;> (rename_i h; (try simp -implicitDefEqProofs only [Bool.not_eq_true', Bool.not_eq_false', decide_eq_true_eq, decide_eq_false_iff_not] at h); (try simp -implicitDefEqProofs only [W3, ↓D3, ↓DA, ↓DP, ↓DC, QX, *, h0, finish_many0, resultsOf, resultOf, scals_Choice, look_nil, evCall_io1, evCall_io2, evCall_io3, evCall_io4, finJ_1, finJ_2, finJ_3, finJ_4, finJ_int, finJ_bool, finJ_str, finJ_nils, finJ_agg, finJ_own, finJ_sl, finJ_tup, look_cons, reduceCtorEq, evCall_mutOwn, evCall_mutAgg, evGive, giveRows, ioBoxes, mutArgs, roArgs, handArg, mutSlots, isPtrB, pairs, pairss, back_nil, back_cons, backO, backE, setBoxes, importB, mode_mut, mode_give, mode_io, mode_ro, List.zip_cons_cons, List.zip_nil_left, List.zip_nil_right, ite_self, ite_true, ite_false, finish_give, finish_mut1, finish_io0, finish_io2, finish_io3, finish_ioc, finI, finC, finW_ptr, SH, leaf_some, isNormal, Int.reduceToNat, id_eq, Int.reduceBEq, Int.reduceLE, Int.reduceLT, Nat.reduceAdd, Nat.reduceEqDiff, Nat.reduceLT, Nat.reduceLeDiff, Nat.reduceMul, Nat.reduceSub, reduceIte])))
    · intro pre z r _ hs' _
      have hpl : pre.length < m := by have := congrArg List.length hs'; simp at this; omega
      clear hs'
      have hp0 : (0 : Int) < ((m - pre.length : Nat) : Int) := by omega
      have hw1 : IntKind.i64.wrap (((m - pre.length : Nat) : Int) - 1) = ((m - (pre.length + 1) : Nat) : Int) := by rw [IntWalk.i64_in _ (by omega)]; omega
      have hln := tabN_len (bs := bs) (odd := 2) (b := ([], belowI bs 6 i1, belowH 6 h1)) pre.length
      simp -implicitDefEqProofs only [List.length_nil, Nat.zero_add] at hln
      simp -implicitDefEqProofs only [tabN]
      generalize tabN bs 2 ([], belowI bs 6 i1, belowH 6 h1) pre.length = b at *
      obtain ⟨l, i2, h2⟩ := b
      simp only at hln
      have hm1 : (l.length + 1) * 1 ≤ 140737488355328 := by omega
      have hm2 : l.length + 1 ≤ 9223372036854775807 := by omega
      have hpl : ∀ x : Bool, plains [.bool x] = true := fun x => rfl
      have hm9 : l.length ≤ 9223372036854775806 := by omega
      simp -implicitDefEqProofs only [W3, ↓D3, ↓DA, ↓DP, ↓DC, QX, hp0, hw1, c3, c4, hpl, hm9, hm1, hm2, tabStep, List.map_append, scals_Choice, look_nil, evCall_io1, evCall_io2, evCall_io3, evCall_io4, finJ_1, finJ_2, finJ_3, finJ_4, finJ_int, finJ_bool, finJ_str, finJ_nils, finJ_agg, finJ_own, finJ_sl, finJ_tup, look_cons, reduceCtorEq, evCall_mutOwn, evCall_mutAgg, evGive, giveRows, ioBoxes, mutArgs, roArgs, handArg, mutSlots, isPtrB, pairs, pairss, back_nil, back_cons, backO, backE, setBoxes, importB, mode_mut, mode_give, mode_io, mode_ro, List.zip_cons_cons, List.zip_nil_left, List.zip_nil_right, ite_self, ite_true, ite_false, finish_give, finish_mut1, finish_io0, finish_io2, finish_io3, finish_ioc, finI, finC, finW_ptr, SH, keep_10_5, leaf_some, isNormal, Int.reduceToNat, id_eq, Int.reduceBEq, Int.reduceLE, Int.reduceLT, Nat.reduceAdd, Nat.reduceEqDiff, Nat.reduceLT, Nat.reduceLeDiff, Nat.reduceMul, Nat.reduceSub, reduceIte]
      repeat' (split <;> (rename_i h; (try simp -implicitDefEqProofs only [Bool.not_eq_true', Bool.not_eq_false', decide_eq_true_eq, decide_eq_false_iff_not] at h); (try simp -implicitDefEqProofs only [W3, ↓D3, ↓DA, ↓DP, ↓DC, QX, *, hp0, hw1, c3, c4, hpl, hm9, hm1, hm2, tabStep, List.map_append, scals_Choice, look_nil, evCall_io1, evCall_io2, evCall_io3, evCall_io4, finJ_1, finJ_2, finJ_3, finJ_4, finJ_int, finJ_bool, finJ_str, finJ_nils, finJ_agg, finJ_own, finJ_sl, finJ_tup, look_cons, reduceCtorEq, evCall_mutOwn, evCall_mutAgg, evGive, giveRows, ioBoxes, mutArgs, roArgs, handArg, mutSlots, isPtrB, pairs, pairss, back_nil, back_cons, backO, backE, setBoxes, importB, mode_mut, mode_give, mode_io, mode_ro, List.zip_cons_cons, List.zip_nil_left, List.zip_nil_right, ite_self, ite_true, ite_false, finish_give, finish_mut1, finish_io0, finish_io2, finish_io3, finish_ioc, finI, finC, finW_ptr, SH, keep_10_5, leaf_some, isNormal, Int.reduceToNat, id_eq, Int.reduceBEq, Int.reduceLE, Int.reduceLT, Nat.reduceAdd, Nat.reduceEqDiff, Nat.reduceLT, Nat.reduceLeDiff, Nat.reduceMul, Nat.reduceSub, reduceIte])))
    · simp -implicitDefEqProofs only [firstRegion]
      rw [keep_10_5]
      simp -implicitDefEqProofs only [W3, ↓D3, ↓DA, ↓DP, ↓DC, tabN, Nat.sub_zero, Int.reduceToNat, id_eq, Int.reduceBEq, Int.reduceLE, Int.reduceLT, SH, Nat.reduceAdd, Nat.reduceEqDiff, Nat.reduceLT, Nat.reduceLeDiff, Nat.reduceMul, Nat.reduceSub, reduceIte]
    · rfl
  · rw [encR_ne e] at c5
    rw [encR_ne e, rowsL_ne e]
    simp -implicitDefEqProofs only [W3, ↓D3, ↓DA, ↓DP, ↓DC, evCall_giveD, scals_Choice, Go.Proofs.Try.f10, c1, c3, c4, c5, hr, look_nil, evCall_io1, evCall_io2, evCall_io3, evCall_io4, finJ_1, finJ_2, finJ_3, finJ_4, finJ_int, finJ_bool, finJ_str, finJ_nils, finJ_agg, finJ_own, finJ_sl, finJ_tup, look_cons, reduceCtorEq, evCall_mutOwn, evCall_mutAgg, evGive, giveRows, ioBoxes, mutArgs, roArgs, handArg, mutSlots, isPtrB, pairs, pairss, back_nil, back_cons, backO, backE, setBoxes, importB, mode_mut, mode_give, mode_io, mode_ro, List.zip_cons_cons, List.zip_nil_left, List.zip_nil_right, ite_self, ite_true, ite_false, finish_give, finish_mut1, finish_io0, finish_io2, finish_io3, finish_ioc, finI, finC, finW_ptr, SH, Int.reduceToNat, id_eq, Int.reduceBEq, Int.reduceLE, Int.reduceLT, Nat.reduceAdd, Nat.reduceEqDiff, Nat.reduceLT, Nat.reduceLeDiff, Nat.reduceMul, Nat.reduceSub, reduceIte]
    rw [ev_loop]
    refine Eq.trans (loop_list (Q := fun (_ : Unit) x => thenEnd E.P _ _ 0 (thenEv E _ _ _ _ _ (outOf 0 x)) = some (.tup [.agg [.int .i64 d.atoms, .own 0 false 49 3 (d.nodes.map (Choice.enc true)), .int .i64 d.root], .own 1 false 4 1 ((tabN bs 2 ([], belowI bs 6 i1, belowH 6 h1) m).1.map AV.bool)], [])) (List.range m) (fun _ _ _ => .inr ()) id
      (fun j _ => { sl := [(2, .ptr 0 0), (4, .ptr 1 0), (5, .ptr 2 0), (6, .own 0 false 4 1 ((tabN bs 2 ([], belowI bs 6 i1, belowH 6 h1) j).1.map AV.bool)), (7, .int .i64 (((m - j : Nat) : Int)))], bx := [(0, [.int .i64 0, .nils, .int .i64 0]), (1, [.sl fl (bs.map byteA), .int .i64 ((tabN bs 2 ([], belowI bs 6 i1, belowH 6 h1) j).2.1 : Nat), .int .i64 (tabN bs 2 ([], belowI bs 6 i1, belowH 6 h1) j).2.2]), (2, [.int .i64 d.atoms, .own 1 false 49 3 (d.nodes.map (Choice.enc true)), .int .i64 d.root])], nx := 5, nt := 26 }) (fun _ _ => True) () ?_ ?_ (by simp; omega) trivial ?_) ?_
    · intro _ _
      rw [List.length_range, Nat.sub_self]
      have h0 : ¬ (0 : Int) < ((0 : Nat) : Int) := by omega
      simp -implicitDefEqProofs only [W3, ↓D3, ↓DA, ↓DP, ↓DC, QX, h0, finish_many0, resultsOf, resultOf, scals_Choice, look_nil, evCall_io1, evCall_io2, evCall_io3, evCall_io4, finJ_1, finJ_2, finJ_3, finJ_4, finJ_int, finJ_bool, finJ_str, finJ_nils, finJ_agg, finJ_own, finJ_sl, finJ_tup, look_cons, reduceCtorEq, evCall_mutOwn, evCall_mutAgg, evGive, giveRows, ioBoxes, mutArgs, roArgs, handArg, mutSlots, isPtrB, pairs, pairss, back_nil, back_cons, backO, backE, setBoxes, importB, mode_mut, mode_give, mode_io, mode_ro, List.zip_cons_cons, List.zip_nil_left, List.zip_nil_right, ite_self, ite_true, ite_false, finish_give, finish_mut1, finish_io0, finish_io2, finish_io3, finish_ioc, finI, finC, finW_ptr, SH, leaf_some, isNormal, Int.reduceToNat, id_eq, Int.reduceBEq, Int.reduceLE, Int.reduceLT, Nat.reduceAdd, Nat.reduceEqDiff, Nat.reduceLT, Nat.reduceLeDiff, Nat.reduceMul, Nat.reduceSub, reduceIte]
      repeat' (split <;> (rename_i h; (try simp -implicitDefEqProofs only [Bool.not_eq_true', Bool.not_eq_false', decide_eq_true_eq, decide_eq_false_iff_not] at h); (try simp -implicitDefEqProofs only [W3, ↓D3, ↓DA, ↓DP, ↓DC, QX, *, h0, finish_many0, resultsOf, resultOf, scals_Choice, look_nil, evCall_io1, evCall_io2, evCall_io3, evCall_io4, finJ_1, finJ_2, finJ_3, finJ_4, finJ_int, finJ_bool, finJ_str, finJ_nils, finJ_agg, finJ_own, finJ_sl, finJ_tup, look_cons, reduceCtorEq, evCall_mutOwn, evCall_mutAgg, evGive, giveRows, ioBoxes, mutArgs, roArgs, handArg, mutSlots, isPtrB, pairs, pairss, back_nil, back_cons, backO, backE, setBoxes, importB, mode_mut, mode_give, mode_io, mode_ro, List.zip_cons_cons, List.zip_nil_left, List.zip_nil_right, ite_self, ite_true, ite_false, finish_give, finish_mut1, finish_io0, finish_io2, finish_io3, finish_ioc, finI, finC, finW_ptr, SH, leaf_some, isNormal, Int.reduceToNat, id_eq, Int.reduceBEq, Int.reduceLE, Int.reduceLT, Nat.reduceAdd, Nat.reduceEqDiff, Nat.reduceLT, Nat.reduceLeDiff, Nat.reduceMul, Nat.reduceSub, reduceIte])))
    · intro pre z r _ hs' _
      have hpl : pre.length < m := by have := congrArg List.length hs'; simp at this; omega
      clear hs'
      have hp0 : (0 : Int) < ((m - pre.length : Nat) : Int) := by omega
      have hw1 : IntKind.i64.wrap (((m - pre.length : Nat) : Int) - 1) = ((m - (pre.length + 1) : Nat) : Int) := by rw [IntWalk.i64_in _ (by omega)]; omega
      have hln := tabN_len (bs := bs) (odd := 2) (b := ([], belowI bs 6 i1, belowH 6 h1)) pre.length
      simp -implicitDefEqProofs only [List.length_nil, Nat.zero_add] at hln
      simp -implicitDefEqProofs only [tabN]
      generalize tabN bs 2 ([], belowI bs 6 i1, belowH 6 h1) pre.length = b at *
      obtain ⟨l, i2, h2⟩ := b
      simp only at hln
      have hm1 : (l.length + 1) * 1 ≤ 140737488355328 := by omega
      have hm2 : l.length + 1 ≤ 9223372036854775807 := by omega
      have hpl : ∀ x : Bool, plains [.bool x] = true := fun x => rfl
      have hm9 : l.length ≤ 9223372036854775806 := by omega
      simp -implicitDefEqProofs only [W3, ↓D3, ↓DA, ↓DP, ↓DC, QX, hp0, hw1, c3, c4, hpl, hm9, hm1, hm2, tabStep, List.map_append, scals_Choice, look_nil, evCall_io1, evCall_io2, evCall_io3, evCall_io4, finJ_1, finJ_2, finJ_3, finJ_4, finJ_int, finJ_bool, finJ_str, finJ_nils, finJ_agg, finJ_own, finJ_sl, finJ_tup, look_cons, reduceCtorEq, evCall_mutOwn, evCall_mutAgg, evGive, giveRows, ioBoxes, mutArgs, roArgs, handArg, mutSlots, isPtrB, pairs, pairss, back_nil, back_cons, backO, backE, setBoxes, importB, mode_mut, mode_give, mode_io, mode_ro, List.zip_cons_cons, List.zip_nil_left, List.zip_nil_right, ite_self, ite_true, ite_false, finish_give, finish_mut1, finish_io0, finish_io2, finish_io3, finish_ioc, finI, finC, finW_ptr, SH, keep_10_5, leaf_some, isNormal, Int.reduceToNat, id_eq, Int.reduceBEq, Int.reduceLE, Int.reduceLT, Nat.reduceAdd, Nat.reduceEqDiff, Nat.reduceLT, Nat.reduceLeDiff, Nat.reduceMul, Nat.reduceSub, reduceIte]
      repeat' (split <;> (rename_i h; (try simp -implicitDefEqProofs only [Bool.not_eq_true', Bool.not_eq_false', decide_eq_true_eq, decide_eq_false_iff_not] at h); (try simp -implicitDefEqProofs only [W3, ↓D3, ↓DA, ↓DP, ↓DC, QX, *, hp0, hw1, c3, c4, hpl, hm9, hm1, hm2, tabStep, List.map_append, scals_Choice, look_nil, evCall_io1, evCall_io2, evCall_io3, evCall_io4, finJ_1, finJ_2, finJ_3, finJ_4, finJ_int, finJ_bool, finJ_str, finJ_nils, finJ_agg, finJ_own, finJ_sl, finJ_tup, look_cons, reduceCtorEq, evCall_mutOwn, evCall_mutAgg, evGive, giveRows, ioBoxes, mutArgs, roArgs, handArg, mutSlots, isPtrB, pairs, pairss, back_nil, back_cons, backO, backE, setBoxes, importB, mode_mut, mode_give, mode_io, mode_ro, List.zip_cons_cons, List.zip_nil_left, List.zip_nil_right, ite_self, ite_true, ite_false, finish_give, finish_mut1, finish_io0, finish_io2, finish_io3, finish_ioc, finI, finC, finW_ptr, SH, keep_10_5, leaf_some, isNormal, Int.reduceToNat, id_eq, Int.reduceBEq, Int.reduceLE, Int.reduceLT, Nat.reduceAdd, Nat.reduceEqDiff, Nat.reduceLT, Nat.reduceLeDiff, Nat.reduceMul, Nat.reduceSub, reduceIte])))
    · simp -implicitDefEqProofs only [firstRegion]
      rw [keep_10_5]
      simp -implicitDefEqProofs only [W3, ↓D3, ↓DA, ↓DP, ↓DC, tabN, Nat.sub_zero, Int.reduceToNat, id_eq, Int.reduceBEq, Int.reduceLE, Int.reduceLT, SH, Nat.reduceAdd, Nat.reduceEqDiff, Nat.reduceLT, Nat.reduceLeDiff, Nat.reduceMul, Nat.reduceSub, reduceIte]
    · rfl
def frmTab (bs : List Int) : Draw (List Bool) := tabD bs (below1 bs 6 0 (hashOf bs)).toNat (belowI bs 6 0) (belowH 6 (hashOf bs))
def frmTurn (bs : List Int) (n : Int) (t : Draw (List Bool)) : Bool → Bool → Int × List Bool
  | true, _ => (oneOf bs [-1, 7, 2] (belowI bs 8 t.2.1) (belowH 8 t.2.2), t.1)
  | false, true => (n, t.1 ++ [true])
  | false, false => (n, t.1)
def frmD (bs : List Int) : Int × List Bool := frmTurn bs (below1 bs 6 0 (hashOf bs)) (frmTab bs) (below1 bs 8 (frmTab bs).2.1 (frmTab bs).2.2 == 0) (below1 bs 8 (frmTab bs).2.1 (frmTab bs).2.2 == 1)
theorem frmD_len {bs : List Int} : (frmD bs).2.length ≤ 65 := by
  have hlt := below_lt bs (n := 6) (by omega) (by omega) 0 (hashOf bs)
  have h0 := tabD_len (bs := bs) (n := (below1 bs 6 0 (hashOf bs)).toNat) (i := belowI bs 6 0) (h := belowH 6 (hashOf bs))
  have h1 := pow_small (n := (below1 bs 6 0 (hashOf bs)).toNat) (by omega)
  have h2 : (frmTab bs).1.length ≤ 64 := by unfold frmTab; omega
  unfold frmD
  generalize (below1 bs 8 (frmTab bs).2.1 (frmTab bs).2.2 == 0) = x
  generalize (below1 bs 8 (frmTab bs).2.1 (frmTab bs).2.2 == 1) = y
  cases x <;> cases y <;> simp -implicitDefEqProofs only [frmTurn, List.length_append, List.length_cons, List.length_nil] <;> omega
set_option maxHeartbeats 4000000 in
theorem r_spec_DrawFromTable {fl : Bool} (k : Nat) (hk : 281474976710656 + 50 ≤ k) (bs : List Int) (hb : bs.length ≤ 140737488355328) :
    run E noExt k 5 [.sl fl (bs.map byteA)] [] = some (.tup [.int .i64 (frmD bs).1, .own 0 false 4 1 ((frmD bs).2.map AV.bool)], []) := by
  have c1 := r_spec_l1New (fl := fl) (k - 1) (by omega) bs hb
  have c2 := fun n hn i h => r_spec_l21Table (fl := fl) (k - 1) (by omega) bs hb n hn i h
  have c3 := fun n i h => r_spec_l1Below (fl := fl) (k - 1) (by omega) bs hb n i h
  have c4 := fun i h => r_spec_l1Int (fl := fl) (k - 1) (by omega) bs hb [-1, 7, 2] (by decide) i h
  have hlt := below_lt bs (n := 6) (by omega) (by omega) 0 (hashOf bs)
  have hl := tabD_len (bs := bs) (n := (below1 bs 6 0 (hashOf bs)).toNat) (i := belowI bs 6 0) (h := belowH 6 (hashOf bs))
  unfold frmD frmTab
  have hd0 : ∃ m : Nat, below1 bs 6 0 (hashOf bs) = (m : Int) := ⟨(below1 bs 6 0 (hashOf bs)).toNat, by omega⟩
  obtain ⟨m, hd⟩ := hd0
  have hm : m ≤ 6 := by omega
  have hp := pow_small hm
  have c5 := c2 m hm (belowI bs 6 0) (belowH 6 (hashOf bs))
  have c6 := c3 6 0 (hashOf bs)
  rw [show ((0 : Nat) : Int) = 0 from rfl] at c6
  simp -implicitDefEqProofs only [hd, Int.toNat_natCast] at c6 hl ⊢
  clear c2
  obtain ⟨k, rfl⟩ : ∃ j, k = j + 1 := ⟨k - 1, by omega⟩
  rw [run_succ rfl rfl, body_eq (nt := 28) (fn := Go.Proofs.Try.f5) (by kernel_rfl) rfl rfl rfl rfl rfl rfl rfl rfl]
  simp -implicitDefEqProofs only [Nat.add_sub_cancel, List.map_cons, List.map_nil, List.length_cons, List.length_nil, Nat.zero_add, Nat.reduceAdd] at c1 c3 c4 c5 c6
  generalize tabD bs m (belowI bs 6 0) (belowH 6 (hashOf bs)) = t at *
  have hm1 : (t.1.length + 1) * 1 ≤ 140737488355328 := by omega
  have hm2 : t.1.length + 1 ≤ 9223372036854775807 := by omega
  have hm9 : t.1.length ≤ 9223372036854775806 := by omega
  have hpl : ∀ x : Bool, plains [.bool x] = true := fun x => rfl
  cases he : bs.isEmpty
  all_goals
    cases e0 : (below1 bs 8 t.2.1 t.2.2 == 0)
    all_goals
      cases e1 : (below1 bs 8 t.2.1 t.2.2 == 1)
      all_goals
        simp -implicitDefEqProofs only [W3, ↓D3, ↓DA, ↓ref_bytes, he, e0, e1, frmTurn, evCall_giveD, finish_many0, resultsOf, resultOf, hpl, hm1, hm2, hm9, List.map_append, scals_bools2, Go.Proofs.Try.f5, c1, c3, c4, c5, c6, look_nil, evCall_io1, evCall_io2, evCall_io3, evCall_io4, finJ_1, finJ_2, finJ_3, finJ_4, finJ_int, finJ_bool, finJ_str, finJ_nils, finJ_agg, finJ_own, finJ_sl, finJ_tup, look_cons, reduceCtorEq, evCall_mutOwn, evCall_mutAgg, evGive, giveRows, ioBoxes, mutArgs, roArgs, handArg, mutSlots, isPtrB, pairs, pairss, back_nil, back_cons, backO, backE, setBoxes, importB, mode_mut, mode_give, mode_io, mode_ro, List.zip_cons_cons, List.zip_nil_left, List.zip_nil_right, ite_self, ite_true, ite_false, finish_give, finish_mut1, finish_io0, finish_io2, finish_io3, finish_ioc, finI, finC, finW_ptr, SH, noref, isRef, isPtr, noPtr, isBad, AV.isUndef, Int.reduceToNat, id_eq, Int.reduceBEq, Int.reduceLE, Int.reduceLT, AV.cells, AV.isCell, Value.cells, Nat.reduceAdd, Nat.reduceEqDiff, Nat.reduceLT, Nat.reduceLeDiff, Nat.reduceMul, Nat.reduceSub, reduceIte]
        try trace_state
def GoodN (A : Int) (ns : List Choice) : Prop := ∀ i x, ns[i]? = some x → okChoice A (ns.take i) x = true
theorem okLoopN (A : Int) (ns : List Choice) (f : Bool) : ∀ (r : List Choice) (k : Nat), loopL (okStep A ns) (fun _ => f) k r () = true ↔ f = true ∧ ∀ j x, r[j]? = some x → okChoice A (ns.take (k + j)) x = true
  | [], k => by simp [loopL]
  | x :: r, k => by
    simp -implicitDefEqProofs only [loopL, okStep]
    by_cases h : okChoice A (ns.take k) x = true
    · rw [if_pos h]
      simp only
      rw [okLoopN A ns f r (k + 1)]
      constructor
      · rintro ⟨h1, h2⟩
        refine ⟨h1, fun j e he => ?_⟩
        cases j with
        | zero => simp at he; subst he; exact h
        | succ j => simp at he; have := h2 j e he; rw [show k + (j + 1) = k + 1 + j by omega]; exact this
      · rintro ⟨h1, h2⟩
        refine ⟨h1, fun j e he => ?_⟩
        have := h2 (j + 1) e (by simpa using he)
        rw [show k + (j + 1) = k + 1 + j by omega] at this
        exact this
    · rw [if_neg h]
      simp only
      constructor
      · intro h1; simp at h1
      · rintro ⟨h1, h2⟩
        exact absurd (h2 0 x (by simp)) h
theorem isDiagram_iff {d : Diagram} : isDiagram d = true ↔ (inR d.atoms 0 6 && inR d.root (-2) ((d.nodes.length : Int) - 1)) = true ∧ GoodN d.atoms d.nodes := by
  unfold isDiagram GoodN
  rw [okLoopN]
  simp -implicitDefEqProofs only [Nat.zero_add]
def D (ns : List Choice) : Diagram := ⟨0, ns, 0⟩
theorem goesTo_D (d : Diagram) (v : List Bool) (z : Int) : goesTo d v z = goesTo (D d.nodes) v z := rfl
theorem ansF_D (d : Diagram) (v : List Bool) : ∀ (n : Nat) (z : Int), ansF d v n z = ansF (D d.nodes) v n z
  | 0, _ => rfl
  | n + 1, z => by simp -implicitDefEqProofs only [ansF]; rw [ansF_D d v n, goesTo_D d]
theorem good_lt {A : Int} {ns : List Choice} (h : GoodN A ns) (v : List Bool) {z : Int} (h0 : 0 ≤ z) (h1 : z < ns.length) : goesTo (D ns) v z < z ∧ -2 ≤ goesTo (D ns) v z := by
  have hx : ns[z.toNat]? = some (ns.getD z.toNat default) := by
    rw [List.getD_eq_getElem?_getD, List.getElem?_eq_getElem (by omega)]; rfl
  have h2 := choice_ok (h _ _ hx)
  rw [List.length_take] at h2
  unfold goesTo D
  simp only
  split <;> omega
theorem ans_fuel {A : Int} {ns : List Choice} (h : GoodN A ns) (v : List Bool) : ∀ (n m : Nat) (z : Int), z < ns.length → (z + 1).toNat ≤ n → (z + 1).toNat ≤ m → ansF (D ns) v n z = ansF (D ns) v m z
  | 0, m, z, hz, hn, hm => by rw [ansF_neg (n := 0) (by omega), ansF_neg (by omega)]
  | n + 1, 0, z, hz, hn, hm => by rw [ansF_neg (by omega), ansF_neg (n := 0) (by omega)]
  | n + 1, m + 1, z, hz, hn, hm => by
    by_cases h0 : 0 ≤ z
    · have hl := good_lt h v h0 hz
      rw [ansF_pos h0, ansF_pos h0]
      exact ans_fuel h v n m _ (by omega) (by omega) (by omega)
    · rw [ansF_neg h0, ansF_neg h0]
def evN (ns : List Choice) (v : List Bool) (z : Int) : Int := ansF (D ns) v (ns.length + 1) z
theorem evN_neg {ns : List Choice} {v : List Bool} {z : Int} (h : ¬ 0 ≤ z) : evN ns v z = z := ansF_neg h
theorem evN_at {A : Int} {ns : List Choice} (h : GoodN A ns) {v : List Bool} {i : Nat} {x : Choice} (hx : ns[i]? = some x) : evN ns v (i : Int) = evN ns v (if v.getD x.atom.toNat false = true then x.high else x.low) := by
  have hi := (List.getElem?_eq_some_iff.1 hx).1
  have h2 := choice_ok (h _ _ hx)
  have hg : goesTo (D ns) v (i : Int) = if v.getD x.atom.toNat false = true then x.high else x.low := by
    unfold goesTo D
    have hd : ns.getD ((i : Nat) : Int).toNat default = x := by rw [List.getD_eq_getElem?_getD, Int.toNat_natCast, hx]; rfl
    simp -implicitDefEqProofs only [hd]
    by_cases hv : x.atom < v.length
    · simp [hv]
    · have : v.getD x.atom.toNat false = false := by
        rw [List.getD_eq_getElem?_getD, List.getElem?_eq_none (by omega)]; rfl
      rw [this]; simp [hv]
  have hl := good_lt h v (z := (i : Int)) (by omega) (by omega)
  unfold evN
  rw [ansF_pos (by omega), hg]
  rw [hg] at hl
  exact ans_fuel h v _ _ _ (by omega) (by omega) (by omega)
theorem good_prefix {A : Int} {ns t : List Choice} (h : GoodN A (ns ++ t)) : GoodN A ns := fun i x hx => by
  have hi := (List.getElem?_eq_some_iff.1 hx).1
  have := h i x (by rw [List.getElem?_append_left hi]; exact hx)
  rw [List.take_append_of_le_length (by omega)] at this
  exact this
theorem evN_prefix {A : Int} {ns t : List Choice} (h : GoodN A (ns ++ t)) (v : List Bool) : ∀ (k : Nat) (z : Int), (z + 1).toNat ≤ k → z < ns.length → evN (ns ++ t) v z = evN ns v z
  | 0, z, hk, hz => by rw [evN_neg (by omega), evN_neg (by omega)]
  | k + 1, z, hk, hz => by
    by_cases h0 : 0 ≤ z
    · have hlt : z.toNat < ns.length := by omega
      have e : z = ((z.toNat : Nat) : Int) := by omega
      have hx := List.getElem?_eq_getElem hlt
      have hx' : (ns ++ t)[z.toNat]? = some ns[z.toNat] := by rw [List.getElem?_append_left hlt]; exact hx
      have h2 := choice_ok (good_prefix h _ _ hx)
      rw [List.length_take] at h2
      rw [e, evN_at h hx', evN_at (good_prefix h) hx]
      split
      · exact evN_prefix h v k _ (by omega) (by omega)
      · exact evN_prefix h v k _ (by omega) (by omega)
    · rw [evN_neg h0, evN_neg h0]
def idxF (v : List Bool) : Nat → Nat → Nat → Nat
  | 0, _, g => g
  | m + 1, a, g => if v.getD a false = true then idxF v m (a + 1) (g + 2 ^ a) else idxF v m (a + 1) g
def Place (ns : List Choice) (a : Nat) (z : Int) : Prop := -2 ≤ z ∧ z < ns.length ∧ ∀ x, 0 ≤ z → ns[z.toNat]? = some x → (a : Int) ≤ x.atom
theorem Place.mono {ns t : List Choice} {a : Nat} {z : Int} (h : Place ns a z) : Place (ns ++ t) a z :=
  ⟨h.1, by have := h.2.1; simp -implicitDefEqProofs only [List.length_append]; omega, fun x h0 hx => h.2.2 x h0 (by have := h.2.1; rw [List.getElem?_append_left (by omega)] at hx; exact hx)⟩
theorem place_next {ns : List Choice} {a : Nat} {z lo hi : Int} (h : Place ns (a + 1) z) : okNext ns ⟨(a : Nat), lo, hi⟩ z = true := by
  unfold okNext inR
  simp -implicitDefEqProofs only [Bool.and_eq_true, Bool.or_eq_true, decide_eq_true_eq]
  refine ⟨⟨h.1, by have := h.2.1; omega⟩, ?_⟩
  by_cases h0 : z < 0
  · exact .inl h0
  · have hlt : z.toNat < ns.length := by have := h.2.1; omega
    have := h.2.2 _ (by omega) (List.getElem?_eq_getElem hlt)
    right
    rw [List.getD_eq_getElem?_getD, List.getElem?_eq_getElem hlt]
    simp -implicitDefEqProofs only [Option.getD_some]
    omega
theorem indexBy_at {α : Type} {p : α → Bool} : ∀ (l : List α) (k : Nat), 0 ≤ indexBy p k l → ∃ i x, indexBy p k l = ((k + i : Nat) : Int) ∧ l[i]? = some x ∧ p x = true
  | [], k, h => by simp [indexBy] at h
  | y :: r, k, h => by
    simp -implicitDefEqProofs only [indexBy] at h ⊢
    split
    · rename_i hp
      exact ⟨0, y, by simp, by simp, hp⟩
    · rename_i hp
      rw [if_neg hp] at h
      obtain ⟨i, x, h1, h2, h3⟩ := indexBy_at r (k + 1) h
      exact ⟨i + 1, x, by rw [h1]; omega, by simpa using h2, h3⟩
theorem indexBy_noneG {α : Type} {p : α → Bool} : ∀ (l : List α) (k : Nat), ¬ 0 ≤ indexBy p k l → l.any p = false
  | [], k, h => rfl
  | y :: r, k, h => by
    simp -implicitDefEqProofs only [indexBy] at h
    split at h
    · omega
    · rename_i hp
      simp -implicitDefEqProofs only [List.any_cons, indexBy_noneG r (k + 1) h, Bool.or_false]
      simpa using hp
theorem good_snoc {A : Int} {ns : List Choice} {x : Choice} (h : GoodN A ns) (hx : okChoice A ns x = true) : GoodN A (ns ++ [x]) := by
  intro i y hy
  rcases Nat.lt_or_ge i ns.length with h1 | h1
  · rw [List.getElem?_append_left h1] at hy
    rw [List.take_append_of_le_length (by omega)]
    exact h i y hy
  · rw [List.getElem?_append_right h1] at hy
    have hi : i = ns.length := by
      have := (List.getElem?_eq_some_iff.1 hy).1
      simp at this; omega
    subst hi
    simp at hy
    subst hy
    rw [List.take_left']
    · exact hx
    · rfl
structure Built (A : Nat) (table : List Bool) (ns : List Choice) (m a g : Nat) (r : Int × List Choice) : Prop where
  pre : ∃ t, r.2 = ns ++ t
  good : GoodN (A : Int) r.2
  place : Place r.2 a r.1
  val : ∀ v, evN r.2 v r.1 = if table.getD (idxF v m a g) false = true then -1 else -2
theorem bld_built (A : Nat) (hA : A ≤ 6) (table : List Bool) : ∀ (m a g : Nat) (ns : List Choice), a + m = A → GoodN (A : Int) ns → Built A table ns m a g (bld table m a g ns)
  | 0, a, g, ns, ham, hg => by
    refine ⟨⟨[], by simp [bld]⟩, hg, ?_, fun v => ?_⟩
    · simp -implicitDefEqProofs only [bld]
      refine ⟨by split <;> omega, by split <;> omega, fun x h0 _ => ?_⟩
      split at h0 <;> omega
    · simp -implicitDefEqProofs only [bld, idxF]
      rw [evN_neg (by split <;> omega)]
      rfl
  | m + 1, a, g, ns, ham, hg => by
    have b1 := bld_built A hA table m (a + 1) g ns (by omega) hg
    have b2 := bld_built A hA table m (a + 1) (g + 2 ^ a) (bld table m (a + 1) g ns).2 (by omega) b1.good
    simp -implicitDefEqProofs only [bld]
    generalize hlo : bld table m (a + 1) g ns = R1 at *
    generalize hhi : bld table m (a + 1) (g + 2 ^ a) R1.2 = R2 at *
    obtain ⟨lo, n1⟩ := R1
    obtain ⟨hi, n2⟩ := R2
    obtain ⟨t1, e1⟩ := b1.pre
    obtain ⟨t2, e2⟩ := b2.pre
    simp only at e1 e2
    have g2 := b2.good
    simp only at g2
    have hlp : Place n2 (a + 1) lo := by rw [e2]; exact b1.place.mono
    have hhp : Place n2 (a + 1) hi := b2.place
    have vlo : ∀ v, evN n2 v lo = if table.getD (idxF v m (a + 1) g) false = true then -1 else -2 := fun v => by
      have := b1.val v
      simp only at this
      rw [← this, e2]
      exact evN_prefix (by rw [← e2]; exact g2) v _ lo (Nat.le_refl _) b1.place.2.1
    have vhi : ∀ v, evN n2 v hi = if table.getD (idxF v m (a + 1) (g + 2 ^ a)) false = true then -1 else -2 := b2.val
    have hval : ∀ v, (if v.getD a false = true then evN n2 v hi else evN n2 v lo) = if table.getD (idxF v (m + 1) a g) false = true then -1 else -2 := fun v => by
      simp -implicitDefEqProofs only [idxF]
      split
      · exact vhi v
      · exact vlo v
    have weak : ∀ z, Place n2 (a + 1) z → Place n2 a z := fun z h => ⟨h.1, h.2.1, fun x h0 hx => by have := h.2.2 x h0 hx; omega⟩
    simp only
    unfold bldJoin
    by_cases heq : (lo == hi) = true
    · rw [if_pos heq]
      have : lo = hi := by simpa using heq
      subst this
      refine ⟨⟨t1 ++ t2, by simp only; rw [e2, e1, List.append_assoc]⟩, g2, weak _ hlp, fun v => ?_⟩
      rw [← hval v]
      simp only
      split <;> rfl
    · rw [if_neg heq]
      have hne : (lo == hi) = false := by simpa using heq
      by_cases hix : 0 ≤ indexBy (fun c => decide ((⟨(a : Nat), lo, hi⟩ : Choice) = c)) 0 n2
      · rw [if_pos hix]
        obtain ⟨i, x, h1, h2, h3⟩ := indexBy_at n2 0 hix
        have hx : x = ⟨(a : Nat), lo, hi⟩ := (of_decide_eq_true h3).symm
        subst hx
        rw [Nat.zero_add] at h1
        have hi' := (List.getElem?_eq_some_iff.1 h2).1
        refine ⟨⟨t1 ++ t2, by simp only; rw [e2, e1, List.append_assoc]⟩, g2, ?_, fun v => ?_⟩
        · simp -implicitDefEqProofs only [h1]
          refine ⟨by omega, by omega, fun y h0 hy => ?_⟩
          rw [Int.toNat_natCast, h2] at hy
          obtain rfl := Option.some.inj hy
          exact Int.le_refl _
        · simp -implicitDefEqProofs only [h1]
          rw [evN_at g2 h2, ← hval v]
          simp -implicitDefEqProofs only [Int.toNat_natCast]
          split <;> rfl
      · rw [if_neg hix]
        have hnone := indexBy_noneG n2 0 hix
        have hok : okChoice (A : Int) n2 ⟨(a : Nat), lo, hi⟩ = true := by
          unfold okChoice
          have hw : IntKind.i64.wrap ((A : Int) - 1) = (A : Int) - 1 := IntWalk.i64_in _ (by omega)
          have hany : (n2.any fun y => decide (y = (⟨(a : Nat), lo, hi⟩ : Choice))) = false := by
            rw [← hnone]
            congr 1
            funext y
            rw [Bool.eq_iff_iff]
            simp -implicitDefEqProofs only [decide_eq_true_eq]
            exact eq_comm
          rw [place_next hlp, place_next hhp, hany, hw]
          simp -implicitDefEqProofs only [inR, hne, Bool.not_false, Bool.and_true, Bool.and_self, Bool.and_eq_true, decide_eq_true_eq]
          omega
        have g3 := good_snoc g2 hok
        have hat : (n2 ++ [(⟨(a : Nat), lo, hi⟩ : Choice)])[n2.length]? = some ⟨(a : Nat), lo, hi⟩ := by simp
        refine ⟨⟨t1 ++ t2 ++ [⟨(a : Nat), lo, hi⟩], by simp only; rw [e2, e1]; simp⟩, g3, ?_, fun v => ?_⟩
        · simp only
          refine ⟨by omega, by simp -implicitDefEqProofs only [List.length_append, List.length_singleton]; omega, fun y h0 hy => ?_⟩
          rw [Int.toNat_natCast, hat] at hy
          obtain rfl := Option.some.inj hy
          exact Int.le_refl _
        · simp only
          rw [evN_at g3 hat, ← hval v]
          simp -implicitDefEqProofs only [Int.toNat_natCast]
          split
          · exact evN_prefix g3 v _ hi (Nat.le_refl _) hhp.2.1
          · exact evN_prefix g3 v _ lo (Nat.le_refl _) hlp.2.1
def numV : List Bool → Nat
  | [] => 0
  | b :: r => (if b = true then 1 else 0) + 2 * numV r
theorem numV_lt : ∀ v : List Bool, numV v < 2 ^ v.length
  | [] => by simp [numV]
  | b :: r => by
    have := numV_lt r
    simp -implicitDefEqProofs only [numV, List.length_cons, Nat.pow_succ]
    split <;> omega
theorem idxF_num (w : List Bool) : ∀ (m a g : Nat) (r : List Bool), r.length = m → w.drop a = r → idxF w m a g = g + 2 ^ a * numV r
  | 0, a, g, r, hr, hw => by
    have : r = [] := List.length_eq_zero_iff.1 hr
    subst this
    simp [idxF, numV]
  | m + 1, a, g, r, hr, hw => by
    cases r with
    | nil => simp at hr
    | cons b r =>
      have h1 : w.getD a false = b := by
        have := congrArg List.head? hw
        rw [List.head?_drop] at this
        rw [List.getD_eq_getElem?_getD, this]
        rfl
      have h2 : w.drop (a + 1) = r := by
        have := congrArg (List.drop 1) hw
        rw [List.drop_drop] at this
        simpa [Nat.add_comm] using this
      simp -implicitDefEqProofs only [idxF, h1, numV]
      rw [idxF_num w m (a + 1) (g + 2 ^ a) r (by simpa using hr) h2, idxF_num w m (a + 1) g r (by simpa using hr) h2]
      have e : 2 ^ (a + 1) * numV r = 2 ^ a * (2 * numV r) := by rw [Nat.pow_succ, Nat.mul_assoc]
      cases b
      · simp -implicitDefEqProofs only [Bool.false_eq_true, if_false, Nat.zero_add, e]
      · simp -implicitDefEqProofs only [if_true, e, Nat.mul_add, Nat.mul_one]; omega
theorem valsOf_num : ∀ (v : List Bool) (k : Nat), k < v.length → decide (numV v / 2 ^ k % 2 = 1) = v.getD k false
  | [], k, h => by simp at h
  | b :: r, 0, h => by
    simp -implicitDefEqProofs only [numV, Nat.pow_zero, Nat.div_one, List.getD_cons_zero]
    cases b
    · have : (0 + 2 * numV r) % 2 = 0 := by omega
      simp [this]
    · have : (1 + 2 * numV r) % 2 = 1 := by omega
      simp [this]
  | b :: r, k + 1, h => by
    have ih := valsOf_num r k (by simpa using h)
    have e : numV (b :: r) / 2 ^ (k + 1) = numV r / 2 ^ k := by
      rw [Nat.pow_succ, Nat.mul_comm, ← Nat.div_div_eq_div_mul]
      congr 1
      simp -implicitDefEqProofs only [numV]
      split <;> omega
    rw [e, ih]
    simp
theorem vals_self (v : List Bool) : valsOf v.length (numV v) = v := by
  unfold valsOf
  refine List.ext_getElem (by simp) fun k h1 h2 => ?_
  simp -implicitDefEqProofs only [List.getElem_map, List.getElem_range]
  rw [valsOf_num v k h2, List.getD_eq_getElem?_getD, List.getElem?_eq_getElem h2]
  rfl
theorem vals_num {n j : Nat} (hj : j < 2 ^ n) : numV (valsOf n j) = j := by
  have key : ∀ (n j : Nat), j < 2 ^ n → numV ((List.range n).map fun k => decide (j / 2 ^ k % 2 = 1)) = j := by
    intro n
    induction n with
    | zero => intro j hj; simp at hj; subst hj; rfl
    | succ n ih =>
      intro j hj
      rw [List.range_succ_eq_map]
      simp -implicitDefEqProofs only [List.map_cons, List.map_map, numV]
      have h1 : (List.map ((fun k => decide (j / 2 ^ k % 2 = 1)) ∘ Nat.succ) (List.range n)) = (List.range n).map fun k => decide (j / 2 / 2 ^ k % 2 = 1) := by
        refine List.map_congr_left fun k _ => ?_
        simp -implicitDefEqProofs only [Function.comp, Nat.succ_eq_add_one, Nat.pow_succ]
        rw [Nat.mul_comm, ← Nat.div_div_eq_div_mul]
      rw [h1, ih (j / 2) (by rw [Nat.pow_succ] at hj; omega)]
      simp -implicitDefEqProofs only [Nat.pow_zero, Nat.div_one]
      by_cases h2 : j % 2 = 1
      · simp [h2]; omega
      · simp [h2]; omega
  exact key n j hj
theorem len_vals (n j : Nat) : (valsOf n j).length = n := by simp [valsOf]
theorem good_nil {A : Int} : GoodN A [] := fun i x h => by simp at h
theorem table_answers {n : Nat} (hn : n ≤ 6) {table : List Bool} (ht : table.length = 2 ^ n) :
    isDiagram (fromTable (n : Nat) table) = true ∧ ∀ v : List Bool, v.length = n → answerOf (fromTable (n : Nat) table) v = table.getD (numV v) false := by
  have hf : fromTable ((n : Nat) : Int) table = fromT (n : Nat) table := by
    unfold fromTable
    rw [if_pos]
    unfold fromOk inR
    simp -implicitDefEqProofs only [Int.toNat_natCast, ht, decide_true, Bool.and_true, Bool.and_eq_true, decide_eq_true_eq]
    omega
  have B := bld_built n hn table n 0 0 [] (by omega) good_nil
  rw [hf]
  have hD : isDiagram (fromT ((n : Nat) : Int) table) = true := by
    rw [isDiagram_iff]
    unfold fromT
    simp -implicitDefEqProofs only [Int.toNat_natCast]
    refine ⟨?_, B.good⟩
    have h1 := B.place.1
    have h2 := B.place.2.1
    simp -implicitDefEqProofs only [inR, Bool.and_eq_true, decide_eq_true_eq]
    omega
  refine ⟨hD, fun v hv => ?_⟩
  unfold answerOf
  rw [hD, Bool.true_and, ansF_D]
  have hval := B.val v
  rw [idxF_num v n 0 0 v hv (by simp)] at hval
  simp -implicitDefEqProofs only [Nat.zero_add, Nat.pow_zero, Nat.one_mul] at hval
  unfold fromT
  simp -implicitDefEqProofs only [Int.toNat_natCast]
  unfold evN at hval
  rw [hval]
  cases table.getD (numV v) false <;> rfl
end Go.Proofs.Ytclpcglblcmcoaa.Flat
