/-
A diagram built from a table: the reference's.
-/
import Derived.Test.YtclpcglblcmcoaaEqFA
import Derived.Test.YtclpcglblcmcoaaEqL
set_option linter.unusedVariables false
set_option linter.unusedSimpArgs false
set_option maxRecDepth 10000
namespace Go.Proofs.Ytclpcglblcmcoaa.Flat
theorem bldJoin_eq (a : Nat) (lo hi : Int) (ns2 : List Choice) (ix : Int) (h : indexBy (fun c => decide ((⟨(a : Nat), lo, hi⟩ : Choice) = c)) 0 ns2 = ix) :
    bldJoin a lo hi ns2 = if (lo == hi) = true then (lo, ns2) else (if 0 ≤ ix then ix else (ns2.length : Nat), if 0 ≤ ix then ns2 else ns2 ++ [⟨(a : Nat), lo, hi⟩]) := by
  unfold bldJoin
  rw [h]
  split
  · rfl
  · split <;> rfl
set_option maxHeartbeats 2000000 in
theorem r_spec_l21Build0 {fl : Bool} (table : List Bool) (n : Nat) (hn : n ≤ 6) (ht : table.length = 2 ^ n) (root : Int) :
    ∀ (m a : Nat) (ha : a + m = n) (k : Nat) (hk : 281474976710656 + 10 + m ≤ k) (g : Nat) (hg : g < 2 ^ a) (ns : List Choice) (hns : ns.length + 2 ^ m ≤ 1000),
    run E noExt k 49 [.ptr 0 0, .sl fl (table.map AV.bool), .int .i64 (a : Nat), .int .i64 (g : Nat)] [[.int .i64 (n : Nat), encR 0 ns, .int .i64 root]] =
      some (.int .i64 (bld table m a g ns).1, [[.int .i64 (n : Nat), encR 0 (bld table m a g ns).2, .int .i64 root]])
  | 0, a, ha, k, hk, g, hg, ns, hns => by
    obtain rfl : a = n := by omega
    have hgl : g < table.length := by rw [ht]; simpa using hg
    have hx : table[g]? = some (table.getD g false) := by rw [List.getD_eq_getElem?_getD, List.getElem?_eq_getElem hgl]; rfl
    have hlt : ((g : Nat) : Int) < ((table.length : Nat) : Int) := by omega
    obtain ⟨k, rfl⟩ : ∃ j, k = j + 1 := ⟨k - 1, by omega⟩
    rw [run_succ rfl rfl, body_eq (nt := 81) (fn := Go.Proofs.Try.f49) (by kernel_rfl) rfl rfl rfl rfl rfl rfl rfl rfl]
    simp -implicitDefEqProofs only [bld]
    generalize table.getD g false = v at hx
    cases v
    all_goals
      simp -implicitDefEqProofs only [W3, ↓D3, ↓DA, ↓DP, ↓DC, Go.Proofs.Try.f49, hx, hlt, rows_encR, boxes_encR, len_rowsN, dedup_rowsN, nodup_rowsN, all_rowsN, any_encR, mapO_encR, look_nil, finJ_1, finJ_2, finJ_3, finJ_4, finJ_int, finJ_bool, finJ_str, finJ_nils, finJ_agg, finJ_own, finJ_sl, finJ_tup, look_cons, reduceCtorEq, evCall_mutOwn, evCall_mutAgg, evGive, giveRows, ioBoxes, mutArgs, roArgs, handArg, mutSlots, isPtrB, pairs, pairss, back_nil, back_cons, backO, backE, setBoxes, importB, mode_mut, mode_give, mode_io, mode_ro, List.zip_cons_cons, List.zip_nil_left, List.zip_nil_right, ite_self, ite_true, ite_false, finish_give, finish_mut1, finish_io0, finish_io2, finish_io3, finish_ioc, finI, finC, finW_ptr, ifEv_bool, if_false, if_true, SH, Int.reduceToNat, id_eq, Int.reduceBEq, Int.reduceLE, Int.reduceLT, Nat.reduceAdd, Nat.reduceEqDiff, Nat.reduceLT, Nat.reduceLeDiff, Nat.reduceMul, Nat.reduceSub, reduceIte]
  | m + 1, a, ha, k, hk, g, hg, ns, hns => by
    have hpm : 0 < 2 ^ m := Nat.pow_pos (by decide)
    have hps : 2 ^ (m + 1) = 2 * 2 ^ m := by rw [Nat.pow_succ]; omega
    have hpa : 2 ^ (a + 1) = 2 * 2 ^ a := by rw [Nat.pow_succ]; omega
    have hl1 := bld_len table m (a + 1) g ns
    have hl2 := bld_len table m (a + 1) (g + 2 ^ a) (bld table m (a + 1) g ns).2
    have c1 := r_spec_l21Build0 (fl := fl) table n hn ht root m (a + 1) (by omega) (k - 1) (by omega) g (by omega) ns (by omega)
    have c2 := r_spec_l21Build0 (fl := fl) table n hn ht root m (a + 1) (by omega) (k - 1) (by omega) (g + 2 ^ a) (by omega) (bld table m (a + 1) g ns).2 (by omega)
    have c3 := r_spec_l21Bit (k - 1) (by omega) a (by omega)
    obtain ⟨k, rfl⟩ : ∃ j, k = j + 1 := ⟨k - 1, by omega⟩
    rw [run_succ rfl rfl, body_eq (nt := 81) (fn := Go.Proofs.Try.f49) (by kernel_rfl) rfl rfl rfl rfl rfl rfl rfl rfl]
    simp -implicitDefEqProofs only [Nat.add_sub_cancel] at c1 c2 c3
    simp -implicitDefEqProofs only [bld]
    generalize bld table m (a + 1) g ns = p1 at *
    obtain ⟨lo, ns1⟩ := p1
    simp only at *
    generalize bld table m (a + 1) (g + 2 ^ a) ns1 = p2 at *
    obtain ⟨hi, ns2⟩ := p2
    simp only at *
    have hg64 : g + 2 ^ a < 64 := by
      have : 2 ^ (a + 1) ≤ 2 ^ 6 := Nat.pow_le_pow_right (by decide) (by omega)
      omega
    have hne : ((((a : Nat) : Int)) == ((n : Nat) : Int)) = false := by simp; omega
    have hw1 : IntKind.i64.wrap ((a : Int) + 1) = ((a + 1 : Nat) : Int) := by rw [IntWalk.i64_in _ (by omega)]; omega
    have hw2 : IntKind.i64.wrap ((g : Int) + ((2 ^ a : Nat) : Int)) = ((g + 2 ^ a : Nat) : Int) := by rw [IntWalk.i64_in _ (by omega)]; omega
    generalize 2 ^ a = pa at *
    have hs : ns2.length ≤ 140737488355328 := by omega
    have hm1 : (ns2.length + 1) * 24 ≤ 140737488355328 := by omega
    have hm2 : ns2.length + 1 ≤ 9223372036854775807 := by omega
    have hpl : plains [(AV.agg [.int .i64 (a : Nat), .int .i64 lo, .int .i64 hi])] = true := rfl
    have hw9 : IntKind.i64.wrap (((ns2.length + 1 : Nat) : Int) - 1) = ((ns2.length : Nat) : Int) := by rw [IntWalk.i64_in _ (by omega)]; omega
    have hw10 : IntKind.i64.wrap (((1 : Nat) : Int) - 1) = 0 := by decide
    rw [bldJoin_eq a lo hi ns2 _ (indexLoop _ ns2 0).symm]
    have g1 := fun nid dst st => give_build (b := 0) (nid := nid) (dst := dst) (st := st) (id := 0) rfl rfl rfl rfl rfl rfl rfl rfl rfl (hΦ := c1)
    have g2 := fun nid dst st => give_build (b := 0) (nid := nid) (dst := dst) (st := st) (id := 112) rfl rfl rfl rfl rfl rfl rfl rfl rfl (hΦ := c2)
    cases hbb : (lo == hi) with
    | true =>
      simp -implicitDefEqProofs only [W3, ↓D3, ↓DA, ↓DP, ↓DC, Go.Proofs.Try.f49, hbb, hne, hw1, hw2, g1, g2, c3, back_rowsN, rows_encR, boxes_encR, len_rowsN, dedup_rowsN, nodup_rowsN, all_rowsN, any_encR, mapO_encR, look_nil, finJ_1, finJ_2, finJ_3, finJ_4, finJ_int, finJ_bool, finJ_str, finJ_nils, finJ_agg, finJ_own, finJ_sl, finJ_tup, look_cons, reduceCtorEq, evCall_mutOwn, evCall_mutAgg, evGive, giveRows, ioBoxes, mutArgs, roArgs, handArg, mutSlots, isPtrB, pairs, pairss, back_nil, back_cons, backO, backE, setBoxes, importB, mode_mut, mode_give, mode_io, mode_ro, List.zip_cons_cons, List.zip_nil_left, List.zip_nil_right, ite_self, ite_true, ite_false, finish_give, finish_mut1, finish_io0, finish_io2, finish_io3, finish_ioc, finI, finC, finW_ptr, ifEv_bool, if_false, if_true, SH, Int.reduceToNat, id_eq, Int.reduceBEq, Int.reduceLE, Int.reduceLT, Nat.reduceAdd, Nat.reduceEqDiff, Nat.reduceLT, Nat.reduceLeDiff, Nat.reduceMul, Nat.reduceSub, reduceIte]
    | false =>
      simp -implicitDefEqProofs only [W3, ↓D3, ↓DA, ↓DP, ↓DC, Go.Proofs.Try.f49, hbb, hne, hw1, hw2, g1, g2, c3, back_rowsN, rows_encR, boxes_encR, len_rowsN, dedup_rowsN, nodup_rowsN, all_rowsN, any_encR, mapO_encR, look_nil, finJ_1, finJ_2, finJ_3, finJ_4, finJ_int, finJ_bool, finJ_str, finJ_nils, finJ_agg, finJ_own, finJ_sl, finJ_tup, look_cons, reduceCtorEq, evCall_mutOwn, evCall_mutAgg, evGive, giveRows, ioBoxes, mutArgs, roArgs, handArg, mutSlots, isPtrB, pairs, pairss, back_nil, back_cons, backO, backE, setBoxes, importB, mode_mut, mode_give, mode_io, mode_ro, List.zip_cons_cons, List.zip_nil_left, List.zip_nil_right, ite_self, ite_true, ite_false, finish_give, finish_mut1, finish_io0, finish_io2, finish_io3, finish_ioc, finI, finC, finW_ptr, ifEv_bool, if_false, if_true, SH, Int.reduceToNat, id_eq, Int.reduceBEq, Int.reduceLE, Int.reduceLT, Nat.reduceAdd, Nat.reduceEqDiff, Nat.reduceLT, Nat.reduceLeDiff, Nat.reduceMul, Nat.reduceSub, reduceIte]
      rw [ev_loop]
      refine loop_list (Q := fun g z => thenEnd E.P _ _ 1 (thenEv E _ _ _ _ _ (outOf 0 z)) = some (.int .i64 (if 0 ≤ g then g else (ns2.length : Nat)), [[.int .i64 (n : Nat), encR 0 (if 0 ≤ g then ns2 else ns2 ++ [⟨(a : Nat), lo, hi⟩]), .int .i64 root]])) ns2 (indexStep fun c => decide ((⟨(a : Nat), lo, hi⟩ : Choice) = c)) (fun _ => -1)
        (fun i _ => { sl := [(0, .ptr 0 0), (11, .ptr 1 0), (12, .int .i64 (i : Nat))], bx := [(0, [.int .i64 (n : Nat), encR 0 ns2, .int .i64 root]), (1, [.int .i64 (a : Nat), .int .i64 lo, .int .i64 hi])], nx := rowsL ns2 + 2, nt := 81 })
        (fun _ _ => True) () ?_ ?_ ?_ trivial ?_
      · intro _ _
        have hng : (0 ≤ (-1 : Int)) = False := eq_false (by decide)
        rcases Classical.em (ns2 = []) with h2 | h2
        · subst h2
          simp -implicitDefEqProofs only [W3, ↓D3, ↓DA, ↓DP, ↓DC, encR_nil, rowsL_nil, encR_one, enc_Choice, hw10, hng, hpl, plan_49_15, plan_49_13, finI, leaf_some, isNormal, ifEv_bool, look_nil, finJ_1, finJ_2, finJ_3, finJ_4, finJ_int, finJ_bool, finJ_str, finJ_nils, finJ_agg, finJ_own, finJ_sl, finJ_tup, look_cons, reduceCtorEq, evCall_mutOwn, evCall_mutAgg, evGive, giveRows, ioBoxes, mutArgs, roArgs, handArg, mutSlots, isPtrB, pairs, pairss, back_nil, back_cons, backO, backE, setBoxes, importB, mode_mut, mode_give, mode_io, mode_ro, List.zip_cons_cons, List.zip_nil_left, List.zip_nil_right, ite_self, ite_true, ite_false, finish_give, finish_mut1, finish_io0, finish_io2, finish_io3, finish_ioc, finC, finW_ptr, SH, Int.reduceToNat, id_eq, Int.reduceBEq, Int.reduceLE, Int.reduceLT, Nat.reduceAdd, Nat.reduceEqDiff, Nat.reduceLT, Nat.reduceLeDiff, Nat.reduceMul, Nat.reduceSub, reduceIte]
        · have e2 := encR_ne (id := 0) h2
          have e3 := encR_ne (id := 0) (append_ne (s := ns2) (c := ⟨(a : Nat), lo, hi⟩))
          rw [List.map_append] at e3
          have hl : (ns2.map (Choice.enc true) ++ [AV.agg [.int .i64 (a : Nat), .int .i64 lo, .int .i64 hi]]).length = ns2.length + 1 := by simp
          simp -implicitDefEqProofs only [W3, ↓D3, ↓DA, ↓DP, ↓DC, e2, rowsL_ne h2, hl, e3, enc_Choice, hs, hm1, hm2, hpl, hw9, hng, plan_49_15, plan_49_13, finI, leaf_some, isNormal, ifEv_bool, look_nil, finJ_1, finJ_2, finJ_3, finJ_4, finJ_int, finJ_bool, finJ_str, finJ_nils, finJ_agg, finJ_own, finJ_sl, finJ_tup, look_cons, reduceCtorEq, evCall_mutOwn, evCall_mutAgg, evGive, giveRows, ioBoxes, mutArgs, roArgs, handArg, mutSlots, isPtrB, pairs, pairss, back_nil, back_cons, backO, backE, setBoxes, importB, mode_mut, mode_give, mode_io, mode_ro, List.zip_cons_cons, List.zip_nil_left, List.zip_nil_right, ite_self, ite_true, ite_false, finish_give, finish_mut1, finish_io0, finish_io2, finish_io3, finish_ioc, finC, finW_ptr, SH, Int.reduceToNat, id_eq, Int.reduceBEq, Int.reduceLE, Int.reduceLT, Nat.reduceAdd, Nat.reduceEqDiff, Nat.reduceLT, Nat.reduceLeDiff, Nat.reduceMul, Nat.reduceSub, reduceIte]
      · intro pre c r b hs' _
        have h2 : ns2 ≠ [] := by rw [hs']; simp
        have e2 := encR_ne (id := 0) h2
        have hi0 : (0 ≤ ((pre.length : Nat) : Int)) = True := eq_true (by omega)
        have hx := (at_row hs' hs).1; have hc := (at_row hs' hs).2.1; have hlt := (at_row hs' hs).2.2.1; have hw1 := (at_row hs' hs).2.2.2.1; have hl9 := (at_row hs' hs).2.2.2.2
        clear hs'
        have hq : decide ((⟨(a : Nat), lo, hi⟩ : Choice) = c) = ((c.atom == (a : Nat)) && ((c.low == lo) && (c.high == hi))) := by rw [← eqb_Choice c ⟨(a : Nat), lo, hi⟩, Bool.eq_iff_iff]; simp [eq_comm]
        simp -implicitDefEqProofs only [W3, ↓D3, ↓DA, ↓DP, ↓DC, QX, e2, rowsL_ne h2, hi0, enc_Choice, hx, hlt, hw1, hq, indexStep, plan_49_15, plan_49_13, finI, look_nil, finJ_1, finJ_2, finJ_3, finJ_4, finJ_int, finJ_bool, finJ_str, finJ_nils, finJ_agg, finJ_own, finJ_sl, finJ_tup, look_cons, reduceCtorEq, evCall_mutOwn, evCall_mutAgg, evGive, giveRows, ioBoxes, mutArgs, roArgs, handArg, mutSlots, isPtrB, pairs, pairss, back_nil, back_cons, backO, backE, setBoxes, importB, mode_mut, mode_give, mode_io, mode_ro, List.zip_cons_cons, List.zip_nil_left, List.zip_nil_right, ite_self, ite_true, ite_false, finish_give, finish_mut1, finish_io0, finish_io2, finish_io3, finish_ioc, finC, finW_ptr, SH, keep_49_11, leaf_some, isNormal, Int.reduceToNat, id_eq, Int.reduceBEq, Int.reduceLE, Int.reduceLT, Nat.reduceAdd, Nat.reduceEqDiff, Nat.reduceLT, Nat.reduceLeDiff, Nat.reduceMul, Nat.reduceSub, reduceIte]
        repeat' (split <;> (rename_i h; (try simp -implicitDefEqProofs only [Bool.not_eq_true', Bool.not_eq_false', decide_eq_true_eq, decide_eq_false_iff_not] at h); (try simp -implicitDefEqProofs only [W3, ↓D3, ↓DA, ↓DP, ↓DC, QX, *, e2, rowsL_ne h2, hi0, enc_Choice, hx, hlt, hw1, hq, indexStep, plan_49_15, plan_49_13, finI, look_nil, finJ_1, finJ_2, finJ_3, finJ_4, finJ_int, finJ_bool, finJ_str, finJ_nils, finJ_agg, finJ_own, finJ_sl, finJ_tup, look_cons, reduceCtorEq, evCall_mutOwn, evCall_mutAgg, evGive, giveRows, ioBoxes, mutArgs, roArgs, handArg, mutSlots, isPtrB, pairs, pairss, back_nil, back_cons, backO, backE, setBoxes, importB, mode_mut, mode_give, mode_io, mode_ro, List.zip_cons_cons, List.zip_nil_left, List.zip_nil_right, ite_self, ite_true, ite_false, finish_give, finish_mut1, finish_io0, finish_io2, finish_io3, finish_ioc, finC, finW_ptr, SH, keep_49_11, leaf_some, isNormal, Int.reduceToNat, id_eq, Int.reduceBEq, Int.reduceLE, Int.reduceLT, Nat.reduceAdd, Nat.reduceEqDiff, Nat.reduceLT, Nat.reduceLeDiff, Nat.reduceMul, Nat.reduceSub, reduceIte])))
      · omega
      · simp -implicitDefEqProofs only [firstRegion]
        rw [keep_49_11]
        simp -implicitDefEqProofs only [W3, ↓D3, ↓DA, ↓DP, ↓DC, rows_encR, boxes_encR, len_rowsN, dedup_rowsN, nodup_rowsN, all_rowsN, any_encR, mapO_encR, Int.reduceToNat, id_eq, Int.reduceBEq, Int.reduceLE, Int.reduceLT, SH, Nat.reduceAdd, Nat.reduceEqDiff, Nat.reduceLT, Nat.reduceLeDiff, Nat.reduceMul, Nat.reduceSub, reduceIte]
theorem or_small : ∀ a < 6, ∀ g < 2 ^ a, bits .or .i64 ((g : Nat) : Int) ((2 ^ a : Nat) : Int) = ((g + 2 ^ a : Nat) : Int) := by decide
theorem lend_encR {bx : Nat → Option (List AV)} {k id : Nat} {s : List Choice} : lend bx (k + 1) (encR id s) = .sl true (s.map (Choice.enc true)) := by
  unfold encR
  split
  · rename_i h
    subst h
    rfl
  · simp -implicitDefEqProofs only [lend, AV.mapO, shuts_Choice]
theorem len_encR2 {bx : Nat → Option (List AV)} {id : Nat} {s : List Choice} : lend bx 4 (encR id s) = .sl true (s.map (Choice.enc true)) := lend_encR
set_option maxHeartbeats 2000000 in
theorem r_impl_built {fl : Bool} (table : List Bool) (n : Nat) (hn : n ≤ 6) (ht : table.length = 2 ^ n) (root : Int) :
    ∀ (m a : Nat) (ha : a + m = n) (k : Nat) (hk : 281474976710656 + 10 + m ≤ k) (g : Nat) (hg : g < 2 ^ a) (ns : List Choice) (hns : ns.length + 2 ^ m ≤ 1000),
    run E noExt k 20 [.ptr 0 0, .int .i64 (a : Nat), .int .i64 (g : Nat), .sl fl (table.map AV.bool)] [[.int .i64 (n : Nat), encR 0 ns, .int .i64 root]] =
      some (.int .i64 (bld table m a g ns).1, [[.int .i64 (n : Nat), encR 0 (bld table m a g ns).2, .int .i64 root]])
  | 0, a, ha, k, hk, g, hg, ns, hns => by
    obtain rfl : a = n := by omega
    have hgl : g < table.length := by rw [ht]; simpa using hg
    have hx : table[g]? = some (table.getD g false) := by rw [List.getD_eq_getElem?_getD, List.getElem?_eq_getElem hgl]; rfl
    have hlt : ((g : Nat) : Int) < ((table.length : Nat) : Int) := by omega
    obtain ⟨k, rfl⟩ : ∃ j, k = j + 1 := ⟨k - 1, by omega⟩
    rw [run_succ rfl rfl, body_eq (nt := 72) (fn := Go.Proofs.Try.f20) (by kernel_rfl) rfl rfl rfl rfl rfl rfl rfl rfl]
    simp -implicitDefEqProofs only [bld]
    generalize table.getD g false = v at hx
    cases v
    all_goals
      simp -implicitDefEqProofs only [W3, ↓D3, ↓DA, ↓DP, ↓DC, Go.Proofs.Try.f20, hx, hlt, rows_encR, boxes_encR, len_rowsN, dedup_rowsN, nodup_rowsN, all_rowsN, any_encR, mapO_encR, look_nil, finJ_1, finJ_2, finJ_3, finJ_4, finJ_int, finJ_bool, finJ_str, finJ_nils, finJ_agg, finJ_own, finJ_sl, finJ_tup, look_cons, reduceCtorEq, evCall_mutOwn, evCall_mutAgg, evGive, giveRows, ioBoxes, mutArgs, roArgs, handArg, mutSlots, isPtrB, pairs, pairss, back_nil, back_cons, backO, backE, setBoxes, importB, mode_mut, mode_give, mode_io, mode_ro, List.zip_cons_cons, List.zip_nil_left, List.zip_nil_right, ite_self, ite_true, ite_false, finish_give, finish_mut1, finish_io0, finish_io2, finish_io3, finish_ioc, finI, finC, finW_ptr, ifEv_bool, if_false, if_true, SH, Int.reduceToNat, id_eq, Int.reduceBEq, Int.reduceLE, Int.reduceLT, Nat.reduceAdd, Nat.reduceEqDiff, Nat.reduceLT, Nat.reduceLeDiff, Nat.reduceMul, Nat.reduceSub, reduceIte]
  | m + 1, a, ha, k, hk, g, hg, ns, hns => by
    have hpm : 0 < 2 ^ m := Nat.pow_pos (by decide)
    have hps : 2 ^ (m + 1) = 2 * 2 ^ m := by rw [Nat.pow_succ]; omega
    have hpa : 2 ^ (a + 1) = 2 * 2 ^ a := by rw [Nat.pow_succ]; omega
    have hl1 := bld_len table m (a + 1) g ns
    have hl2 := bld_len table m (a + 1) (g + 2 ^ a) (bld table m (a + 1) g ns).2
    have c1 := r_impl_built (fl := fl) table n hn ht root m (a + 1) (by omega) (k - 1) (by omega) g (by omega) ns (by omega)
    have c2 := r_impl_built (fl := fl) table n hn ht root m (a + 1) (by omega) (k - 1) (by omega) (g + 2 ^ a) (by omega) (bld table m (a + 1) g ns).2 (by omega)
    have hsl : ∀ t, evBin2 E.P .shl t (.int .i64 1) (.int .i64 ((a : Nat) : Int)) = some (.int .i64 ((2 ^ a : Nat) : Int)) := fun t => by
      have h1 : (((a : Nat) : Int) < 0) = False := eq_false (by omega)
      simp -implicitDefEqProofs only [evBin2, evBin, evShift, h1, if_false, shl_small a (by omega)]
    have hor : ∀ t, evBin2 E.P .or t (.int .i64 ((g : Nat) : Int)) (.int .i64 ((2 ^ a : Nat) : Int)) = some (.int .i64 ((g + 2 ^ a : Nat) : Int)) := fun t => by
      simp -implicitDefEqProofs only [evBin2, evBin, evInt, or_small a (by omega) g hg, if_true]
    have c4 := fun (s : List Choice) hs x => r_slices_Index_Choice (fl := true) (gl := true) (k - 1) (by omega) s hs x
    obtain ⟨k, rfl⟩ : ∃ j, k = j + 1 := ⟨k - 1, by omega⟩
    rw [run_succ rfl rfl, body_eq (nt := 72) (fn := Go.Proofs.Try.f20) (by kernel_rfl) rfl rfl rfl rfl rfl rfl rfl rfl]
    simp -implicitDefEqProofs only [Nat.add_sub_cancel, enc_Choice] at c1 c2 c4
    simp -implicitDefEqProofs only [bld]
    generalize bld table m (a + 1) g ns = p1 at *
    obtain ⟨lo, ns1⟩ := p1
    simp only at *
    generalize bld table m (a + 1) (g + 2 ^ a) ns1 = p2 at *
    obtain ⟨hi, ns2⟩ := p2
    simp only at *
    have hne : ((((a : Nat) : Int)) == ((n : Nat) : Int)) = false := by simp; omega
    have hw1 : IntKind.i64.wrap ((a : Int) + 1) = ((a + 1 : Nat) : Int) := by rw [IntWalk.i64_in _ (by omega)]; omega
    generalize 2 ^ a = pa at *
    have hs : ns2.length ≤ 140737488355328 := by omega
    have c5 := c4 ns2 hs ⟨(a : Nat), lo, hi⟩
    clear c4
    have hm1 : (ns2.length + 1) * 24 ≤ 140737488355328 := by omega
    have hm2 : ns2.length + 1 ≤ 9223372036854775807 := by omega
    have hpl : plains [(AV.agg [.int .i64 (a : Nat), .int .i64 lo, .int .i64 hi])] = true := rfl
    have hw9 : IntKind.i64.wrap (((ns2.length + 1 : Nat) : Int) - 1) = ((ns2.length : Nat) : Int) := by rw [IntWalk.i64_in _ (by omega)]; omega
    have hw10 : IntKind.i64.wrap (((1 : Nat) : Int) - 1) = 0 := by decide
    have g1 := fun nid dst st => give_build (b := 0) (nid := nid) (dst := dst) (st := st) (id := 0) rfl rfl rfl rfl rfl rfl rfl rfl rfl (hΦ := c1)
    have g2 := fun id nid dst st => give_build (b := 0) (nid := nid) (dst := dst) (st := st) (id := id) rfl rfl rfl rfl rfl rfl rfl rfl rfl (hΦ := c2)
    have g2 := g2 144
    unfold bldJoin
    simp only at c5
    generalize indexBy (fun c => decide ((⟨(a : Nat), lo, hi⟩ : Choice) = c)) 0 ns2 = ix at *
    cases hbb : (lo == hi) with
    | true =>
      simp -implicitDefEqProofs only [W3, ↓D3, ↓DA, ↓DP, ↓DC, Go.Proofs.Try.f20, hbb, hne, hw1, hsl, hor, g1, g2, back_rowsN, rows_encR, boxes_encR, len_rowsN, dedup_rowsN, nodup_rowsN, all_rowsN, any_encR, mapO_encR, look_nil, finJ_1, finJ_2, finJ_3, finJ_4, finJ_int, finJ_bool, finJ_str, finJ_nils, finJ_agg, finJ_own, finJ_sl, finJ_tup, look_cons, reduceCtorEq, evCall_mutOwn, evCall_mutAgg, evGive, giveRows, ioBoxes, mutArgs, roArgs, handArg, mutSlots, isPtrB, pairs, pairss, back_nil, back_cons, backO, backE, setBoxes, importB, mode_mut, mode_give, mode_io, mode_ro, List.zip_cons_cons, List.zip_nil_left, List.zip_nil_right, ite_self, ite_true, ite_false, finish_give, finish_mut1, finish_io0, finish_io2, finish_io3, finish_ioc, finI, finC, finW_ptr, ifEv_bool, if_false, if_true, SH, Int.reduceToNat, id_eq, Int.reduceBEq, Int.reduceLE, Int.reduceLT, Nat.reduceAdd, Nat.reduceEqDiff, Nat.reduceLT, Nat.reduceLeDiff, Nat.reduceMul, Nat.reduceSub, reduceIte]
    | false =>
      rcases Classical.em (0 ≤ ix) with h | h
      · simp -implicitDefEqProofs only [W3, ↓D3, ↓DA, ↓DP, ↓DC, Go.Proofs.Try.f20, hbb, h, c5, hne, hw1, hsl, hor, g1, g2, len_encR2, plan_20_10, back_rowsN, rows_encR, boxes_encR, len_rowsN, dedup_rowsN, nodup_rowsN, all_rowsN, any_encR, mapO_encR, look_nil, finJ_1, finJ_2, finJ_3, finJ_4, finJ_int, finJ_bool, finJ_str, finJ_nils, finJ_agg, finJ_own, finJ_sl, finJ_tup, look_cons, reduceCtorEq, evCall_mutOwn, evCall_mutAgg, evGive, giveRows, ioBoxes, mutArgs, roArgs, handArg, mutSlots, isPtrB, pairs, pairss, back_nil, back_cons, backO, backE, setBoxes, importB, mode_mut, mode_give, mode_io, mode_ro, List.zip_cons_cons, List.zip_nil_left, List.zip_nil_right, ite_self, ite_true, ite_false, finish_give, finish_mut1, finish_io0, finish_io2, finish_io3, finish_ioc, finI, finC, finW_ptr, ifEv_bool, if_false, if_true, SH, Int.reduceToNat, id_eq, Int.reduceBEq, Int.reduceLE, Int.reduceLT, Nat.reduceAdd, Nat.reduceEqDiff, Nat.reduceLT, Nat.reduceLeDiff, Nat.reduceMul, Nat.reduceSub, reduceIte]
      · rcases Classical.em (ns2 = []) with h2 | h2
        · subst h2
          simp -implicitDefEqProofs only [List.map_nil] at c5
          simp -implicitDefEqProofs only [W3, ↓D3, ↓DA, ↓DP, ↓DC, Go.Proofs.Try.f20, hbb, h, c5, hne, hw1, hsl, hor, g1, g2, encR_nil, rowsL_nil, encR_one, enc_Choice, hw10, hpl, len_encR2, plan_20_10, plan_20_13, back_rowsN, rows_encR, boxes_encR, len_rowsN, dedup_rowsN, nodup_rowsN, all_rowsN, any_encR, mapO_encR, look_nil, finJ_1, finJ_2, finJ_3, finJ_4, finJ_int, finJ_bool, finJ_str, finJ_nils, finJ_agg, finJ_own, finJ_sl, finJ_tup, look_cons, reduceCtorEq, evCall_mutOwn, evCall_mutAgg, evGive, giveRows, ioBoxes, mutArgs, roArgs, handArg, mutSlots, isPtrB, pairs, pairss, back_nil, back_cons, backO, backE, setBoxes, importB, mode_mut, mode_give, mode_io, mode_ro, List.zip_cons_cons, List.zip_nil_left, List.zip_nil_right, ite_self, ite_true, ite_false, finish_give, finish_mut1, finish_io0, finish_io2, finish_io3, finish_ioc, finI, finC, finW_ptr, ifEv_bool, if_false, if_true, SH, Int.reduceToNat, id_eq, Int.reduceBEq, Int.reduceLE, Int.reduceLT, Nat.reduceAdd, Nat.reduceEqDiff, Nat.reduceLT, Nat.reduceLeDiff, Nat.reduceMul, Nat.reduceSub, reduceIte]
        · have e2 := fun id => encR_ne (id := id) h2
          have e3 := encR_ne (id := 0) (append_ne (s := ns2) (c := ⟨(a : Nat), lo, hi⟩))
          rw [List.map_append] at e3
          have hl : (ns2.map (Choice.enc true) ++ [AV.agg [.int .i64 (a : Nat), .int .i64 lo, .int .i64 hi]]).length = ns2.length + 1 := by simp
          simp -implicitDefEqProofs only [W3, ↓D3, ↓DA, ↓DP, ↓DC, Go.Proofs.Try.f20, hbb, h, c5, hne, hw1, hsl, hor, g1, g2, e2, e3, hl, enc_Choice, hs, hm1, hm2, hw9, hpl, shuts_Choice, plan_20_10, plan_20_13, back_rowsN, rows_encR, boxes_encR, len_rowsN, dedup_rowsN, nodup_rowsN, all_rowsN, any_encR, mapO_encR, look_nil, finJ_1, finJ_2, finJ_3, finJ_4, finJ_int, finJ_bool, finJ_str, finJ_nils, finJ_agg, finJ_own, finJ_sl, finJ_tup, look_cons, reduceCtorEq, evCall_mutOwn, evCall_mutAgg, evGive, giveRows, ioBoxes, mutArgs, roArgs, handArg, mutSlots, isPtrB, pairs, pairss, back_nil, back_cons, backO, backE, setBoxes, importB, mode_mut, mode_give, mode_io, mode_ro, List.zip_cons_cons, List.zip_nil_left, List.zip_nil_right, ite_self, ite_true, ite_false, finish_give, finish_mut1, finish_io0, finish_io2, finish_io3, finish_ioc, finI, finC, finW_ptr, ifEv_bool, if_false, if_true, SH, Int.reduceToNat, id_eq, Int.reduceBEq, Int.reduceLE, Int.reduceLT, Nat.reduceAdd, Nat.reduceEqDiff, Nat.reduceLT, Nat.reduceLeDiff, Nat.reduceMul, Nat.reduceSub, reduceIte]
noncomputable def fromT (atoms : Int) (table : List Bool) : Diagram := ⟨atoms, (bld table atoms.toNat 0 0 []).2, (bld table atoms.toNat 0 0 []).1⟩
noncomputable def fromOk (atoms : Int) (table : List Bool) : Bool := inR atoms 0 6 && decide (table.length = 2 ^ atoms.toNat)
noncomputable def fromTable (atoms : Int) (table : List Bool) : Diagram := if fromOk atoms table = true then fromT atoms table else ⟨0, [], 0⟩
noncomputable def Diagram.encN (d : Diagram) : AV := .agg [.int .i64 d.atoms, encR 0 d.nodes, .int .i64 d.root]
theorem r_spec_FromTable {fl : Bool} (k : Nat) (hk : 281474976710656 + 30 ≤ k) (atoms : Int) (table : List Bool) (hl : table.length ≤ 1099511627776) :
    run E noExt k 37 [.int .i64 atoms, .sl fl (table.map AV.bool)] [] = some (.tup [(fromTable atoms table).encN, .bool (fromOk atoms table)], []) := by
  have c1 := r_spec_l1In (k - 1) (by omega) atoms 0 6
  have c2 := r_spec_l21Bit (k - 1) (by omega)
  have c3 := fun n hn ht => r_spec_l21Build0 (fl := fl) table n hn ht 0 n 0 (by omega) (k - 1) (by omega) 0 (by simp) [] (by have : 2 ^ n ≤ 2 ^ 6 := Nat.pow_le_pow_right (by decide) hn; simp -implicitDefEqProofs only [List.length_nil]; omega)
  unfold fromTable fromOk
  obtain ⟨k, rfl⟩ : ∃ j, k = j + 1 := ⟨k - 1, by omega⟩
  rw [run_succ rfl rfl, body_eq (nt := 26) (fn := Go.Proofs.Try.f37) (by kernel_rfl) rfl rfl rfl rfl rfl rfl rfl rfl]
  simp -implicitDefEqProofs only [Nat.add_sub_cancel] at c1 c2 c3
  cases hd : inR atoms 0 6 with
  | false =>
    rw [hd] at c1
    simp -implicitDefEqProofs only [W3, ↓D3, ↓DA, ↓DP, ↓DC, Go.Proofs.Try.f37, c1, Diagram.encN, encR_nil, ifEv_bool, gate_bool, if_false, SH, Int.reduceToNat, id_eq, Int.reduceBEq, Int.reduceLE, Int.reduceLT, Nat.reduceAdd, Nat.reduceEqDiff, Nat.reduceLT, Nat.reduceLeDiff, Nat.reduceMul, Nat.reduceSub, reduceIte]
  | true =>
    rw [hd] at c1
    have hr := hd
    simp -implicitDefEqProofs only [inR, Bool.and_eq_true, decide_eq_true_eq] at hr
    obtain ⟨n, hn⟩ : ∃ n : Nat, atoms = (n : Int) := ⟨atoms.toNat, by omega⟩
    subst hn
    have hn6 : n ≤ 6 := by omega
    have c4 := c2 n hn6
    have c5 := c3 n hn6
    clear c2 c3
    simp -implicitDefEqProofs only [Int.toNat_natCast]
    rcases Classical.em (table.length = 2 ^ n) with h | h
    · have hd2 : (((table.length : Nat) : Int) == ((2 ^ n : Nat) : Int)) = true := by simp [h]
      have c6 := c5 h
      have hz0 : ((0 : Nat) : Int) = 0 := rfl
      simp -implicitDefEqProofs only [hz0] at c6
      have g1 := fun nid dst st => give_build (b := 128) (nid := nid) (dst := dst) (st := st) (id := 0) rfl rfl rfl rfl rfl rfl rfl rfl rfl (hΦ := c6)
      have hdt : decide (table.length = 2 ^ n) = true := decide_eq_true h
      unfold fromT
      simp -implicitDefEqProofs only [Int.toNat_natCast]
      generalize bld table n 0 0 [] = p at *
      simp -implicitDefEqProofs only [hdt, Bool.true_and, if_true]
      simp -implicitDefEqProofs only [W3, ↓D3, ↓DA, Go.Proofs.Try.f37, c1, c4, hd2, bne, encR_nil, g1, Diagram.encN, ifEv_bool, gate_bool, if_false, if_true, back_rowsN, rows_encR, boxes_encR, ↓isCell_encR, len_rowsN, dedup_rowsN, nodup_rowsN, all_rowsN, any_encR, mapO_encR, ref_encR, scal_encR, small_rowsN, lend_encR4, imp_encR, rowsN_nil, look_nil, finJ_1, finJ_2, finJ_3, finJ_4, finJ_int, finJ_bool, finJ_str, finJ_nils, finJ_agg, finJ_own, finJ_sl, finJ_tup, look_cons, reduceCtorEq, evCall_mutOwn, evCall_mutAgg, evGive, giveRows, ioBoxes, mutArgs, roArgs, handArg, mutSlots, isPtrB, pairs, pairss, back_nil, back_cons, backO, backE, setBoxes, importB, mode_mut, mode_give, mode_io, mode_ro, List.zip_cons_cons, List.zip_nil_left, List.zip_nil_right, ite_self, ite_true, ite_false, finish_give, finish_mut1, finish_io0, finish_io2, finish_io3, finish_ioc, finI, finC, finW_ptr, SH, noref, isRef, isPtr, noPtr, isBad, AV.isUndef, Int.reduceToNat, id_eq, Int.reduceBEq, Int.reduceLE, Int.reduceLT, AV.cells, AV.isCell, Value.cells, Nat.reduceAdd, Nat.reduceEqDiff, Nat.reduceLT, Nat.reduceLeDiff, Nat.reduceMul, Nat.reduceSub, reduceIte]
    · have hd2 : (((table.length : Nat) : Int) == ((2 ^ n : Nat) : Int)) = false := by rw [beq_eq_false_iff_ne]; intro e; exact h (by omega)
      have hdt : decide (table.length = 2 ^ n) = false := decide_eq_false h
      simp -implicitDefEqProofs only [hdt, Bool.true_and]
      simp -implicitDefEqProofs only [W3, ↓D3, ↓DA, ↓DP, ↓DC, Go.Proofs.Try.f37, c1, c4, hd2, bne, Diagram.encN, encR_nil, ifEv_bool, gate_bool, if_false, if_true, SH, Int.reduceToNat, id_eq, Int.reduceBEq, Int.reduceLE, Int.reduceLT, Nat.reduceAdd, Nat.reduceEqDiff, Nat.reduceLT, Nat.reduceLeDiff, Nat.reduceMul, Nat.reduceSub, reduceIte]
theorem r_impl_FromTable {fl : Bool} (k : Nat) (hk : 281474976710656 + 30 ≤ k) (atoms : Int) (table : List Bool) (hl : table.length ≤ 1099511627776) :
    run E noExt k 6 [.int .i64 atoms, .sl fl (table.map AV.bool)] [] = some (.tup [(fromTable atoms table).encN, .bool (fromOk atoms table)], []) := by
  have c1 := r_impl_InRange (k - 1) (by omega) atoms 0 6
  have c3 := fun n hn ht => r_impl_built (fl := fl) table n hn ht 0 n 0 (by omega) (k - 1) (by omega) 0 (by simp) [] (by have : 2 ^ n ≤ 2 ^ 6 := Nat.pow_le_pow_right (by decide) hn; simp -implicitDefEqProofs only [List.length_nil]; omega)
  unfold fromTable fromOk
  obtain ⟨k, rfl⟩ : ∃ j, k = j + 1 := ⟨k - 1, by omega⟩
  rw [run_succ rfl rfl, body_eq (nt := 24) (fn := Go.Proofs.Try.f6) (by kernel_rfl) rfl rfl rfl rfl rfl rfl rfl rfl]
  simp -implicitDefEqProofs only [Nat.add_sub_cancel] at c1 c3
  cases hd : inR atoms 0 6 with
  | false =>
    rw [hd] at c1
    simp -implicitDefEqProofs only [W3, ↓D3, ↓DA, ↓DP, ↓DC, Go.Proofs.Try.f6, c1, Diagram.encN, encR_nil, ifEv_bool, gate_bool, if_false, SH, Int.reduceToNat, id_eq, Int.reduceBEq, Int.reduceLE, Int.reduceLT, Nat.reduceAdd, Nat.reduceEqDiff, Nat.reduceLT, Nat.reduceLeDiff, Nat.reduceMul, Nat.reduceSub, reduceIte]
  | true =>
    rw [hd] at c1
    have hr := hd
    simp -implicitDefEqProofs only [inR, Bool.and_eq_true, decide_eq_true_eq] at hr
    obtain ⟨n, hn⟩ : ∃ n : Nat, atoms = (n : Int) := ⟨atoms.toNat, by omega⟩
    subst hn
    have hn6 : n ≤ 6 := by omega
    have hsl : ∀ t, evBin2 E.P .shl t (.int .i64 1) (.int .i64 ((n : Nat) : Int)) = some (.int .i64 ((2 ^ n : Nat) : Int)) := fun t => by
      have h1 : (((n : Nat) : Int) < 0) = False := eq_false (by omega)
      simp -implicitDefEqProofs only [evBin2, evBin, evShift, h1, if_false, shl_small n (by omega)]
    have c5 := c3 n hn6
    clear c3
    simp -implicitDefEqProofs only [Int.toNat_natCast]
    rcases Classical.em (table.length = 2 ^ n) with h | h
    · have hd2 : (((table.length : Nat) : Int) == ((2 ^ n : Nat) : Int)) = true := by simp [h]
      have c6 := c5 h
      have hz0 : ((0 : Nat) : Int) = 0 := rfl
      simp -implicitDefEqProofs only [hz0] at c6
      have g1 := fun nid dst st => give_build (b := 128) (nid := nid) (dst := dst) (st := st) (id := 0) rfl rfl rfl rfl rfl rfl rfl rfl rfl (hΦ := c6)
      have hdt : decide (table.length = 2 ^ n) = true := decide_eq_true h
      unfold fromT
      simp -implicitDefEqProofs only [Int.toNat_natCast]
      generalize bld table n 0 0 [] = p at *
      simp -implicitDefEqProofs only [hdt, Bool.true_and, if_true]
      simp -implicitDefEqProofs only [W3, ↓D3, ↓DA, Go.Proofs.Try.f6, c1, hsl, hd2, bne, encR_nil, g1, Diagram.encN, ifEv_bool, gate_bool, if_false, if_true, back_rowsN, rows_encR, boxes_encR, ↓isCell_encR, len_rowsN, dedup_rowsN, nodup_rowsN, all_rowsN, any_encR, mapO_encR, ref_encR, scal_encR, small_rowsN, lend_encR4, imp_encR, rowsN_nil, look_nil, finJ_1, finJ_2, finJ_3, finJ_4, finJ_int, finJ_bool, finJ_str, finJ_nils, finJ_agg, finJ_own, finJ_sl, finJ_tup, look_cons, reduceCtorEq, evCall_mutOwn, evCall_mutAgg, evGive, giveRows, ioBoxes, mutArgs, roArgs, handArg, mutSlots, isPtrB, pairs, pairss, back_nil, back_cons, backO, backE, setBoxes, importB, mode_mut, mode_give, mode_io, mode_ro, List.zip_cons_cons, List.zip_nil_left, List.zip_nil_right, ite_self, ite_true, ite_false, finish_give, finish_mut1, finish_io0, finish_io2, finish_io3, finish_ioc, finI, finC, finW_ptr, SH, noref, isRef, isPtr, noPtr, isBad, AV.isUndef, Int.reduceToNat, id_eq, Int.reduceBEq, Int.reduceLE, Int.reduceLT, AV.cells, AV.isCell, Value.cells, Nat.reduceAdd, Nat.reduceEqDiff, Nat.reduceLT, Nat.reduceLeDiff, Nat.reduceMul, Nat.reduceSub, reduceIte]
    · have hd2 : (((table.length : Nat) : Int) == ((2 ^ n : Nat) : Int)) = false := by rw [beq_eq_false_iff_ne]; intro e; exact h (by omega)
      have hdt : decide (table.length = 2 ^ n) = false := decide_eq_false h
      simp -implicitDefEqProofs only [hdt, Bool.true_and]
      simp -implicitDefEqProofs only [W3, ↓D3, ↓DA, ↓DP, ↓DC, Go.Proofs.Try.f6, c1, hsl, hd2, bne, Diagram.encN, encR_nil, ifEv_bool, gate_bool, if_false, if_true, SH, Int.reduceToNat, id_eq, Int.reduceBEq, Int.reduceLE, Int.reduceLT, Nat.reduceAdd, Nat.reduceEqDiff, Nat.reduceLT, Nat.reduceLeDiff, Nat.reduceMul, Nat.reduceSub, reduceIte]
theorem fromTable_len (atoms : Int) (table : List Bool) : (fromTable atoms table).nodes.length ≤ 63 := by
  unfold fromTable
  split
  · rename_i h
    unfold fromOk at h
    rw [Bool.and_eq_true] at h
    have hr := h.1
    simp -implicitDefEqProofs only [inR, Bool.and_eq_true, decide_eq_true_eq] at hr
    have h1 := bld_len table atoms.toNat 0 0 []
    have h2 : 2 ^ atoms.toNat ≤ 2 ^ 6 := Nat.pow_le_pow_right (by decide) (by omega)
    simp -implicitDefEqProofs only [List.length_nil] at h1
    show (bld table atoms.toNat 0 0 []).2.length ≤ 63
    omega
  · simp
theorem lendO_encR {id : Nat} {s : List Choice} {p : Nat → Nat → AV} {h : Bool → Nat → Bool → Nat → Nat → List AV → Nat → Nat → AV} : AV.mapO (fun _ _ _ _ xs => .sl true (AV.shuts xs)) p h (fun _ => .sl true []) (encR id s) = .sl true (s.map (Choice.enc true)) := by
  unfold encR
  split
  · rename_i h
    subst h
    rfl
  · simp -implicitDefEqProofs only [AV.mapO, shuts_Choice]
def byteA (z : Int) : AV := .int .u8 z
theorem byteA_eq {z : Int} : byteA z = .int .u8 z := rfl
theorem and_255 (x : Int) : 0 ≤ bits .and .i64 x 255 ∧ bits .and .i64 x 255 ≤ 255 := by
  unfold bits
  simp only
  have h : ((BitVec.ofInt IntKind.i64.bits x) &&& (BitVec.ofInt IntKind.i64.bits 255)).toNat ≤ 255 := by
    rw [BitVec.toNat_and]
    exact Nat.le_trans Nat.and_le_right (by decide)
  rw [IntWalk.i64_in _ (by omega)]
  omega
theorem conv_u8 {x : Int} : evConvert E.P 5 3 (.int .u8 x) = some (.int .i64 (IntKind.i64.wrap x)) := by kernel_rfl
def nextH (h : Int) : Int := IntKind.i64.wrap (IntKind.i64.wrap (h * 6364136223846793005) + 1442695040888963407)
def shrI (n : Nat) (x : Int) : Int := x.fdiv (2 ^ n)
theorem shr33 {P : Program} {t : Nat} {x : Int} : evBin2 P .shr t (.int .i64 x) (.int .u64 33) = some (.int .i64 (shrI 33 x)) := rfl
theorem shr47 {P : Program} {t : Nat} {x : Int} : evBin2 P .shr t (.int .i64 x) (.int .u64 47) = some (.int .i64 (shrI 47 x)) := rfl
theorem xorI {P : Program} {t : Nat} {x y : Int} : evBin2 P .xor t (.int .i64 x) (.int .i64 y) = some (.int .i64 (bits .xor .i64 x y)) := rfl
theorem andI {P : Program} {t : Nat} {x y : Int} : evBin2 P .and t (.int .i64 x) (.int .i64 y) = some (.int .i64 (bits .and .i64 x y)) := rfl
def rawB (h : Int) : Int := bits .and .i64 (bits .xor .i64 (shrI 33 (nextH h)) (shrI 47 (nextH h))) 255
def byteAt (bs : List Int) (i : Nat) (h : Int) : Int := match bs[i]? with
  | some z => bits .and .i64 (IntKind.i64.wrap (rawB h + IntKind.i64.wrap z)) 255
  | none => rawB h
def nextI (bs : List Int) (i : Nat) : Nat := match bs[i]? with
  | some _ => i + 1
  | none => i
theorem byteAt_le (bs : List Int) (i : Nat) (h : Int) : 0 ≤ byteAt bs i h ∧ byteAt bs i h ≤ 255 := by
  unfold byteAt
  split <;> exact and_255 _
theorem r_spec_l1Byte {fl : Bool} (k : Nat) (hk : 281474976710656 + 1 ≤ k) (bs : List Int) (hb : bs.length ≤ 140737488355328) (i : Nat) (h : Int) :
    run E noExt k 30 [.ptr 0 0] [[.sl fl (bs.map byteA), .int .i64 (i : Nat), .int .i64 h]] = some (.int .i64 (byteAt bs i h), [[.sl fl (bs.map byteA), .int .i64 (nextI bs i : Nat), .int .i64 (nextH h)]]) := by
  obtain ⟨k, rfl⟩ : ∃ j, k = j + 1 := ⟨k - 1, by omega⟩
  rw [run_succ rfl rfl, body_eq (nt := 58) (fn := Go.Proofs.Try.f30) (by kernel_rfl) rfl rfl rfl rfl rfl rfl rfl rfl]
  rcases Nat.lt_or_ge i bs.length with hi | hi
  · have hx : bs[i]? = some bs[i] := List.getElem?_eq_getElem hi
    have hx2 : (bs.map byteA)[i]? = some (.int .u8 bs[i]) := by rw [List.getElem?_map, hx]; rfl
    have hlt : ((i : Nat) : Int) < ((bs.length : Nat) : Int) := by omega
    have hw : IntKind.i64.wrap (((i : Nat) : Int) + 1) = ((i + 1 : Nat) : Int) := by rw [IntWalk.i64_in _ (by omega)]; omega
    simp -implicitDefEqProofs only [W3, ↓D3, ↓DA, ↓DP, ↓DC, byteAt, nextI, hx, Go.Proofs.Try.f30, plan_30_2, plan_30_3, plan_30_4, hlt, hw, shr33, shr47, xorI, andI, byteA_eq, rawB, nextH, op_convert, conv_u8, look_nil, evCall_io1, evCall_io2, evCall_io3, evCall_io4, finJ_1, finJ_2, finJ_3, finJ_4, finJ_int, finJ_bool, finJ_str, finJ_nils, finJ_agg, finJ_own, finJ_sl, finJ_tup, look_cons, reduceCtorEq, evCall_mutOwn, evCall_mutAgg, evGive, giveRows, ioBoxes, mutArgs, roArgs, handArg, mutSlots, isPtrB, pairs, pairss, back_nil, back_cons, backO, backE, setBoxes, importB, mode_mut, mode_give, mode_io, mode_ro, List.zip_cons_cons, List.zip_nil_left, List.zip_nil_right, ite_self, ite_true, ite_false, finish_give, finish_mut1, finish_io0, finish_io2, finish_io3, finish_ioc, finI, finC, finW_ptr, SH, Int.reduceToNat, id_eq, Int.reduceBEq, Int.reduceLE, Int.reduceLT, Nat.reduceAdd, Nat.reduceEqDiff, Nat.reduceLT, Nat.reduceLeDiff, Nat.reduceMul, Nat.reduceSub, reduceIte]
  · have hx : bs[i]? = none := List.getElem?_eq_none hi
    have hlt : ¬ ((i : Nat) : Int) < ((bs.length : Nat) : Int) := by omega
    simp -implicitDefEqProofs only [W3, ↓D3, ↓DA, ↓DP, ↓DC, byteAt, nextI, hx, Go.Proofs.Try.f30, plan_30_2, plan_30_3, plan_30_4, hlt, shr33, shr47, xorI, andI, byteA_eq, rawB, nextH, op_convert, conv_u8, look_nil, evCall_io1, evCall_io2, evCall_io3, evCall_io4, finJ_1, finJ_2, finJ_3, finJ_4, finJ_int, finJ_bool, finJ_str, finJ_nils, finJ_agg, finJ_own, finJ_sl, finJ_tup, look_cons, reduceCtorEq, evCall_mutOwn, evCall_mutAgg, evGive, giveRows, ioBoxes, mutArgs, roArgs, handArg, mutSlots, isPtrB, pairs, pairss, back_nil, back_cons, backO, backE, setBoxes, importB, mode_mut, mode_give, mode_io, mode_ro, List.zip_cons_cons, List.zip_nil_left, List.zip_nil_right, ite_self, ite_true, ite_false, finish_give, finish_mut1, finish_io0, finish_io2, finish_io3, finish_ioc, finI, finC, finW_ptr, SH, Int.reduceToNat, id_eq, Int.reduceBEq, Int.reduceLE, Int.reduceLT, Nat.reduceAdd, Nat.reduceEqDiff, Nat.reduceLT, Nat.reduceLeDiff, Nat.reduceMul, Nat.reduceSub, reduceIte]
def below1 (bs : List Int) (n : Int) (i : Nat) (h : Int) : Int := if n ≤ 0 then 0 else if n ≤ 256 then (byteAt bs i h).tmod n else
  (IntKind.i64.wrap (IntKind.i64.wrap (IntKind.i64.wrap (byteAt bs i h * 65536) + IntKind.i64.wrap (byteAt bs (nextI bs i) (nextH h) * 256)) + byteAt bs (nextI bs (nextI bs i)) (nextH (nextH h)))).tmod n
def belowI (bs : List Int) (n : Int) (i : Nat) : Nat := if n ≤ 0 then i else if n ≤ 256 then nextI bs i else nextI bs (nextI bs (nextI bs i))
def belowH (n : Int) (h : Int) : Int := if n ≤ 0 then h else if n ≤ 256 then nextH h else nextH (nextH (nextH h))
theorem r_spec_l1Below {fl : Bool} (k : Nat) (hk : 281474976710656 + 2 ≤ k) (bs : List Int) (hb : bs.length ≤ 140737488355328) (n : Int) (i : Nat) (h : Int) :
    run E noExt k 16 [.ptr 0 0, .int .i64 n] [[.sl fl (bs.map byteA), .int .i64 (i : Nat), .int .i64 h]] = some (.int .i64 (below1 bs n i h), [[.sl fl (bs.map byteA), .int .i64 (belowI bs n i : Nat), .int .i64 (belowH n h)]]) := by
  have c1 := fun i h => r_spec_l1Byte (fl := fl) (k - 1) (by omega) bs hb i h
  obtain ⟨k, rfl⟩ : ∃ j, k = j + 1 := ⟨k - 1, by omega⟩
  rw [run_succ rfl rfl, body_eq (nt := 31) (fn := Go.Proofs.Try.f16) (by kernel_rfl) rfl rfl rfl rfl rfl rfl rfl rfl]
  simp -implicitDefEqProofs only [Nat.add_sub_cancel] at c1
  rcases Classical.em (n ≤ 0) with h0 | h0
  · simp -implicitDefEqProofs only [W3, ↓D3, ↓DA, ↓DP, ↓DC, below1, belowI, belowH, Go.Proofs.Try.f16, h0, c1, look_nil, evCall_io1, evCall_io2, evCall_io3, evCall_io4, finJ_1, finJ_2, finJ_3, finJ_4, finJ_int, finJ_bool, finJ_str, finJ_nils, finJ_agg, finJ_own, finJ_sl, finJ_tup, look_cons, reduceCtorEq, evCall_mutOwn, evCall_mutAgg, evGive, giveRows, ioBoxes, mutArgs, roArgs, handArg, mutSlots, isPtrB, pairs, pairss, back_nil, back_cons, backO, backE, setBoxes, importB, mode_mut, mode_give, mode_io, mode_ro, List.zip_cons_cons, List.zip_nil_left, List.zip_nil_right, ite_self, ite_true, ite_false, finish_give, finish_mut1, finish_io0, finish_io2, finish_io3, finish_ioc, finI, finC, finW_ptr, SH, Int.reduceToNat, id_eq, Int.reduceBEq, Int.reduceLE, Int.reduceLT, Nat.reduceAdd, Nat.reduceEqDiff, Nat.reduceLT, Nat.reduceLeDiff, Nat.reduceMul, Nat.reduceSub, reduceIte]
  rcases Classical.em (n ≤ 256) with h1 | h1
  · have hn : ∀ t x, evBin2 E.P .rem t (.int .i64 x) (.int .i64 n) = some (.int .i64 (x.tmod n)) := fun t x => by
      have h9 : ¬ n = 0 := by omega
      simp [evBin2, evBin, evInt, h9]
    simp -implicitDefEqProofs only [W3, ↓D3, ↓DA, ↓DP, ↓DC, below1, belowI, belowH, Go.Proofs.Try.f16, h0, h1, hn, c1, look_nil, evCall_io1, evCall_io2, evCall_io3, evCall_io4, finJ_1, finJ_2, finJ_3, finJ_4, finJ_int, finJ_bool, finJ_str, finJ_nils, finJ_agg, finJ_own, finJ_sl, finJ_tup, look_cons, reduceCtorEq, evCall_mutOwn, evCall_mutAgg, evGive, giveRows, ioBoxes, mutArgs, roArgs, handArg, mutSlots, isPtrB, pairs, pairss, back_nil, back_cons, backO, backE, setBoxes, importB, mode_mut, mode_give, mode_io, mode_ro, List.zip_cons_cons, List.zip_nil_left, List.zip_nil_right, ite_self, ite_true, ite_false, finish_give, finish_mut1, finish_io0, finish_io2, finish_io3, finish_ioc, finI, finC, finW_ptr, SH, Int.reduceToNat, id_eq, Int.reduceBEq, Int.reduceLE, Int.reduceLT, Nat.reduceAdd, Nat.reduceEqDiff, Nat.reduceLT, Nat.reduceLeDiff, Nat.reduceMul, Nat.reduceSub, reduceIte]
  · have hn : ∀ t x, evBin2 E.P .rem t (.int .i64 x) (.int .i64 n) = some (.int .i64 (x.tmod n)) := fun t x => by
      have h9 : ¬ n = 0 := by omega
      simp [evBin2, evBin, evInt, h9]
    simp -implicitDefEqProofs only [W3, ↓D3, ↓DA, ↓DP, ↓DC, below1, belowI, belowH, Go.Proofs.Try.f16, h0, h1, hn, c1, look_nil, evCall_io1, evCall_io2, evCall_io3, evCall_io4, finJ_1, finJ_2, finJ_3, finJ_4, finJ_int, finJ_bool, finJ_str, finJ_nils, finJ_agg, finJ_own, finJ_sl, finJ_tup, look_cons, reduceCtorEq, evCall_mutOwn, evCall_mutAgg, evGive, giveRows, ioBoxes, mutArgs, roArgs, handArg, mutSlots, isPtrB, pairs, pairss, back_nil, back_cons, backO, backE, setBoxes, importB, mode_mut, mode_give, mode_io, mode_ro, List.zip_cons_cons, List.zip_nil_left, List.zip_nil_right, ite_self, ite_true, ite_false, finish_give, finish_mut1, finish_io0, finish_io2, finish_io3, finish_ioc, finI, finC, finW_ptr, SH, Int.reduceToNat, id_eq, Int.reduceBEq, Int.reduceLE, Int.reduceLT, Nat.reduceAdd, Nat.reduceEqDiff, Nat.reduceLT, Nat.reduceLeDiff, Nat.reduceMul, Nat.reduceSub, reduceIte]
end Go.Proofs.Ytclpcglblcmcoaa.Flat
