/-
The draws: a new cursor.
-/
import Derived.Test.YtggkeechdakccaaEqPG
import Derived.Test.YtggkeechdakccaaEqS
set_option linter.unusedVariables false
set_option linter.unusedSimpArgs false
set_option maxRecDepth 10000
namespace Go.Proofs.Ytggkeechdakccaa.Flat
def hashS (_ : Nat) (z : Int) (h : Int) : Sum Int Int := .inr (bits .and .i64 (IntKind.i64.wrap (IntKind.i64.wrap (IntKind.i64.wrap (h * 137) + IntKind.i64.wrap z) + 11)) 1073741823)
def hashOf (bs : List Int) : Int := loopL hashS id 0 (bs.take 4000) (IntKind.i64.wrap (193017 + ((bs.length : Nat) : Int)))
theorem r_spec_l1New {fl : Bool} (k : Nat) (hk : 281474976710656 + 1 ≤ k) (bs : List Int) (hb : bs.length ≤ 140737488355328) :
    run E noExt k 13 [.sl fl (bs.map byteA)] [] = some (.ptr 0 0, [[.sl fl (bs.map byteA), .int .i64 0, .int .i64 (hashOf bs)]]) := by
  obtain ⟨k, rfl⟩ : ∃ j, k = j + 1 := ⟨k - 1, by omega⟩
  rw [run_succ rfl rfl, body_eq (nt := 32) (fn := Go.Proofs.Try.f13) (by kernel_rfl) rfl rfl rfl rfl rfl rfl rfl rfl]
  simp -implicitDefEqProofs only [W4, ↓D4, ↓DA, ↓DP, ↓DC, Go.Proofs.Try.f13, SH, dedup, nodupB, idx, AV.rows, AV.rowss, AV.mapO, AV.mapOs, Int.reduceToNat, id_eq, Int.reduceBEq, Int.reduceLE, Int.reduceLT, Nat.reduceAdd, Nat.reduceEqDiff, Nat.reduceLT, Nat.reduceLeDiff, Nat.reduceMul, Nat.reduceSub, reduceIte]
  rw [ev_loop]
  have hlen : (bs.take 4000).length = min 4000 bs.length := List.length_take
  refine Eq.trans (loop_list (Q := fun g x => thenEnd E.P _ _ 0 (thenEv E _ _ _ _ _ (outOf 0 x)) = some (.ptr 0 0, [[.sl fl (bs.map byteA), .int .i64 0, .int .i64 g]])) (bs.take 4000) hashS id
    (fun i h => { sl := [(0, .sl fl (bs.map byteA)), (3, .int .i64 h), (4, .int .i64 (i : Nat))], bx := [], nx := 0, nt := 32 }) (fun _ _ => True) (IntKind.i64.wrap (193017 + ((bs.length : Nat) : Int))) ?_ ?_ (by omega) trivial ?_) ?_
  · intro h _
    rcases Nat.lt_or_ge bs.length 4000 with hl | hl
    · have hm : (bs.take 4000).length = bs.length := by omega
      rw [hm]
      have hlt : ¬ ((bs.length : Nat) : Int) < ((bs.length : Nat) : Int) := by omega
      simp -implicitDefEqProofs only [W3, ↓D3, ↓DA, ↓DP, ↓DC, QX, hlt, id_eq, look_cons, reduceCtorEq, evCall, evGive, giveRows, ioBoxes, mutArgs, roArgs, handArg, mutSlots, isPtrB, pairs, pairss, back_nil, back_cons, backO, backE, setBoxes, importB, mode_mut, mode_give, mode_io, mode_ro, List.zip_cons_cons, List.zip_nil_left, List.zip_nil_right, ite_self, ite_true, ite_false, finish_give, finish_mut1, finish_io0, finish_io1, finish_io2, finish_io3, finish_ioc, finI, finC, finW_ptr, SH, leaf_some, isNormal, Int.reduceToNat, Int.reduceBEq, Int.reduceLE, Int.reduceLT, Nat.reduceAdd, Nat.reduceEqDiff, Nat.reduceLT, Nat.reduceLeDiff, Nat.reduceMul, Nat.reduceSub, reduceIte]
      repeat' (split <;> (rename_i h; (try simp -implicitDefEqProofs only [Bool.not_eq_true', Bool.not_eq_false', decide_eq_true_eq, decide_eq_false_iff_not] at h); (try simp -implicitDefEqProofs only [W3, ↓D3, ↓DA, ↓DP, ↓DC, QX, *, hlt, id_eq, look_cons, reduceCtorEq, evCall, evGive, giveRows, ioBoxes, mutArgs, roArgs, handArg, mutSlots, isPtrB, pairs, pairss, back_nil, back_cons, backO, backE, setBoxes, importB, mode_mut, mode_give, mode_io, mode_ro, List.zip_cons_cons, List.zip_nil_left, List.zip_nil_right, ite_self, ite_true, ite_false, finish_give, finish_mut1, finish_io0, finish_io1, finish_io2, finish_io3, finish_ioc, finI, finC, finW_ptr, SH, leaf_some, isNormal, Int.reduceToNat, Int.reduceBEq, Int.reduceLE, Int.reduceLT, Nat.reduceAdd, Nat.reduceEqDiff, Nat.reduceLT, Nat.reduceLeDiff, Nat.reduceMul, Nat.reduceSub, reduceIte])))
      all_goals (rw [finish_give rfl]; simp -implicitDefEqProofs only [W3, ↓D3, ↓DA, ↓DP, ↓DC, finW_ptr, Int.reduceToNat, id_eq, Int.reduceBEq, Int.reduceLE, Int.reduceLT, SH, Nat.reduceAdd, Nat.reduceEqDiff, Nat.reduceLT, Nat.reduceLeDiff, Nat.reduceMul, Nat.reduceSub, reduceIte])
    · have hm : (bs.take 4000).length = 4000 := by omega
      rw [hm]
      have h9 : ¬ ((4000 : Nat) : Int) < 4000 := by omega
      rcases Nat.lt_or_ge 4000 bs.length with hl2 | hl2
      · have hlt : ((4000 : Nat) : Int) < ((bs.length : Nat) : Int) := by omega
        simp -implicitDefEqProofs only [W3, ↓D3, ↓DA, ↓DP, ↓DC, QX, hlt, h9, id_eq, look_cons, reduceCtorEq, evCall, evGive, giveRows, ioBoxes, mutArgs, roArgs, handArg, mutSlots, isPtrB, pairs, pairss, back_nil, back_cons, backO, backE, setBoxes, importB, mode_mut, mode_give, mode_io, mode_ro, List.zip_cons_cons, List.zip_nil_left, List.zip_nil_right, ite_self, ite_true, ite_false, finish_give, finish_mut1, finish_io0, finish_io1, finish_io2, finish_io3, finish_ioc, finI, finC, finW_ptr, SH, leaf_some, isNormal, Int.reduceToNat, Int.reduceBEq, Int.reduceLE, Int.reduceLT, Nat.reduceAdd, Nat.reduceEqDiff, Nat.reduceLT, Nat.reduceLeDiff, Nat.reduceMul, Nat.reduceSub, reduceIte]
        repeat' (split <;> (rename_i h; (try simp -implicitDefEqProofs only [Bool.not_eq_true', Bool.not_eq_false', decide_eq_true_eq, decide_eq_false_iff_not] at h); (try simp -implicitDefEqProofs only [W3, ↓D3, ↓DA, ↓DP, ↓DC, QX, *, hlt, h9, id_eq, look_cons, reduceCtorEq, evCall, evGive, giveRows, ioBoxes, mutArgs, roArgs, handArg, mutSlots, isPtrB, pairs, pairss, back_nil, back_cons, backO, backE, setBoxes, importB, mode_mut, mode_give, mode_io, mode_ro, List.zip_cons_cons, List.zip_nil_left, List.zip_nil_right, ite_self, ite_true, ite_false, finish_give, finish_mut1, finish_io0, finish_io1, finish_io2, finish_io3, finish_ioc, finI, finC, finW_ptr, SH, leaf_some, isNormal, Int.reduceToNat, Int.reduceBEq, Int.reduceLE, Int.reduceLT, Nat.reduceAdd, Nat.reduceEqDiff, Nat.reduceLT, Nat.reduceLeDiff, Nat.reduceMul, Nat.reduceSub, reduceIte])))
        all_goals (rw [finish_give rfl]; simp -implicitDefEqProofs only [W3, ↓D3, ↓DA, ↓DP, ↓DC, finW_ptr, Int.reduceToNat, id_eq, Int.reduceBEq, Int.reduceLE, Int.reduceLT, SH, Nat.reduceAdd, Nat.reduceEqDiff, Nat.reduceLT, Nat.reduceLeDiff, Nat.reduceMul, Nat.reduceSub, reduceIte])
      · have hlt : ¬ ((4000 : Nat) : Int) < ((bs.length : Nat) : Int) := by omega
        simp -implicitDefEqProofs only [W3, ↓D3, ↓DA, ↓DP, ↓DC, QX, hlt, h9, id_eq, look_cons, reduceCtorEq, evCall, evGive, giveRows, ioBoxes, mutArgs, roArgs, handArg, mutSlots, isPtrB, pairs, pairss, back_nil, back_cons, backO, backE, setBoxes, importB, mode_mut, mode_give, mode_io, mode_ro, List.zip_cons_cons, List.zip_nil_left, List.zip_nil_right, ite_self, ite_true, ite_false, finish_give, finish_mut1, finish_io0, finish_io1, finish_io2, finish_io3, finish_ioc, finI, finC, finW_ptr, SH, leaf_some, isNormal, Int.reduceToNat, Int.reduceBEq, Int.reduceLE, Int.reduceLT, Nat.reduceAdd, Nat.reduceEqDiff, Nat.reduceLT, Nat.reduceLeDiff, Nat.reduceMul, Nat.reduceSub, reduceIte]
        repeat' (split <;> (rename_i h; (try simp -implicitDefEqProofs only [Bool.not_eq_true', Bool.not_eq_false', decide_eq_true_eq, decide_eq_false_iff_not] at h); (try simp -implicitDefEqProofs only [W3, ↓D3, ↓DA, ↓DP, ↓DC, QX, *, hlt, h9, id_eq, look_cons, reduceCtorEq, evCall, evGive, giveRows, ioBoxes, mutArgs, roArgs, handArg, mutSlots, isPtrB, pairs, pairss, back_nil, back_cons, backO, backE, setBoxes, importB, mode_mut, mode_give, mode_io, mode_ro, List.zip_cons_cons, List.zip_nil_left, List.zip_nil_right, ite_self, ite_true, ite_false, finish_give, finish_mut1, finish_io0, finish_io1, finish_io2, finish_io3, finish_ioc, finI, finC, finW_ptr, SH, leaf_some, isNormal, Int.reduceToNat, Int.reduceBEq, Int.reduceLE, Int.reduceLT, Nat.reduceAdd, Nat.reduceEqDiff, Nat.reduceLT, Nat.reduceLeDiff, Nat.reduceMul, Nat.reduceSub, reduceIte])))
        all_goals (rw [finish_give rfl]; simp -implicitDefEqProofs only [W3, ↓D3, ↓DA, ↓DP, ↓DC, finW_ptr, Int.reduceToNat, id_eq, Int.reduceBEq, Int.reduceLE, Int.reduceLT, SH, Nat.reduceAdd, Nat.reduceEqDiff, Nat.reduceLT, Nat.reduceLeDiff, Nat.reduceMul, Nat.reduceSub, reduceIte])
  · intro pre z r h hs' _
    have hpl : pre.length < 4000 ∧ pre.length < bs.length := by have := congrArg List.length hs'; simp at this; omega
    have hx : bs[pre.length]? = some z := by
      have h1 : (bs.take 4000)[pre.length]? = some z := by rw [hs']; simp
      rw [List.getElem?_take] at h1
      simpa [hpl.1] using h1
    have hlt : ((pre.length : Nat) : Int) < ((bs.length : Nat) : Int) := by omega
    have hlt2 : ((pre.length : Nat) : Int) < 4000 := by omega
    have hw1 : IntKind.i64.wrap (((pre.length : Nat) : Int) + 1) = ((pre.length + 1 : Nat) : Int) := by rw [IntWalk.i64_in _ (by omega)]; omega
    clear hs'
    simp -implicitDefEqProofs only [W3, ↓D3, ↓DA, ↓DP, ↓DC, QX, hx, hlt, hlt2, hw1, byteA_eq, op_convert, conv_u8, andI, hashS, SH, keep_13_3, leaf_some, isNormal, Int.reduceToNat, id_eq, Int.reduceBEq, Int.reduceLE, Int.reduceLT, Nat.reduceAdd, Nat.reduceEqDiff, Nat.reduceLT, Nat.reduceLeDiff, Nat.reduceMul, Nat.reduceSub, reduceIte]
    repeat' (split <;> (rename_i h; (try simp -implicitDefEqProofs only [Bool.not_eq_true', Bool.not_eq_false', decide_eq_true_eq, decide_eq_false_iff_not] at h); (try simp -implicitDefEqProofs only [W3, ↓D3, ↓DA, ↓DP, ↓DC, QX, *, hx, hlt, hlt2, hw1, byteA_eq, op_convert, conv_u8, andI, hashS, SH, keep_13_3, leaf_some, isNormal, Int.reduceToNat, id_eq, Int.reduceBEq, Int.reduceLE, Int.reduceLT, Nat.reduceAdd, Nat.reduceEqDiff, Nat.reduceLT, Nat.reduceLeDiff, Nat.reduceMul, Nat.reduceSub, reduceIte])))
  · simp -implicitDefEqProofs only [firstRegion]
    rw [keep_13_3]
    simp -implicitDefEqProofs only [W3, ↓D3, ↓DA, ↓DP, ↓DC, Int.reduceToNat, id_eq, Int.reduceBEq, Int.reduceLE, Int.reduceLT, SH, Nat.reduceAdd, Nat.reduceEqDiff, Nat.reduceLT, Nat.reduceLeDiff, Nat.reduceMul, Nat.reduceSub, reduceIte]
  · rfl
def pairStep (bs : List Int) (b : List Includes × Nat × Int) : List Includes × Nat × Int :=
  (b.1 ++ [⟨IntKind.i64.wrap (1 + below1 bs 5 b.2.1 b.2.2), below1 bs (IntKind.i64.wrap (1 + below1 bs 5 b.2.1 b.2.2)) (belowI bs 5 b.2.1) (belowH 5 b.2.2)⟩],
    belowI bs (IntKind.i64.wrap (1 + below1 bs 5 b.2.1 b.2.2)) (belowI bs 5 b.2.1), belowH (IntKind.i64.wrap (1 + below1 bs 5 b.2.1 b.2.2)) (belowH 5 b.2.2))
def pairsN (bs : List Int) (b : List Includes × Nat × Int) : Nat → List Includes × Nat × Int
  | 0 => b
  | n + 1 => pairStep bs (pairsN bs b n)
theorem pairsN_len {bs : List Int} {b : List Includes × Nat × Int} : ∀ n, (pairsN bs b n).1.length = b.1.length + n
  | 0 => rfl
  | n + 1 => by simp -implicitDefEqProofs only [pairsN, pairStep, List.length_append, pairsN_len n, List.length_cons, List.length_nil]; omega
def pairsD (bs : List Int) (i : Nat) (h : Int) : Draw (List Includes) := pairsN bs ([], belowI bs 4 i, belowH 4 h) (below1 bs 4 i h).toNat
theorem pairsD_len {bs : List Int} {i : Nat} {h : Int} : (pairsD bs i h).1.length ≤ 3 := by
  have := below_lt bs (n := 4) (by omega) (by omega) i h
  unfold pairsD
  rw [pairsN_len]
  simp -implicitDefEqProofs only [List.length_nil]
  omega
theorem r_spec_l14Pairs {fl : Bool} (k : Nat) (hk : 281474976710656 + 3 ≤ k) (bs : List Int) (hb : bs.length ≤ 140737488355328) (i : Nat) (h : Int) :
    run E noExt k 31 [.ptr 0 0] [[.sl fl (bs.map byteA), .int .i64 (i : Nat), .int .i64 h]] = some (.own 0 false 79 2 ((pairsD bs i h).1.map (Includes.enc true)), [[.sl fl (bs.map byteA), .int .i64 ((pairsD bs i h).2.1 : Nat), .int .i64 (pairsD bs i h).2.2]]) := by
  have c1 := fun n i h => r_spec_l1Below (fl := fl) (k - 1) (by omega) bs hb n i h
  have hlt := below_lt bs (n := 4) (by omega) (by omega) i h
  obtain ⟨k, rfl⟩ : ∃ j, k = j + 1 := ⟨k - 1, by omega⟩
  rw [run_succ rfl rfl, body_eq (nt := 25) (fn := Go.Proofs.Try.f31) (by kernel_rfl) rfl rfl rfl rfl rfl rfl rfl rfl]
  simp -implicitDefEqProofs only [Nat.add_sub_cancel] at c1
  unfold pairsD
  generalize hd : below1 bs 4 i h = d at *
  obtain ⟨m, rfl⟩ : ∃ m : Nat, d = (m : Int) := ⟨d.toNat, by omega⟩
  simp -implicitDefEqProofs only [W3, ↓D3, ↓DA, ↓DP, ↓DC, Go.Proofs.Try.f31, c1, hd, look_nil, evCall_io1, evCall_io2, evCall_io3, evCall_io4, finJ_1, finJ_2, finJ_3, finJ_4, finJ_int, finJ_bool, finJ_str, finJ_nils, finJ_agg, finJ_own, finJ_sl, finJ_tup, look_cons, reduceCtorEq, evCall_mutOwn, evCall_mutAgg, evGive, giveRows, ioBoxes, mutArgs, roArgs, handArg, mutSlots, isPtrB, pairs, pairss, back_nil, back_cons, backO, backE, setBoxes, importB, mode_mut, mode_give, mode_io, mode_ro, List.zip_cons_cons, List.zip_nil_left, List.zip_nil_right, ite_self, ite_true, ite_false, finish_give, finish_mut1, finish_io0, finish_io2, finish_io3, finish_ioc, finI, finC, finW_ptr, SH, Int.reduceToNat, id_eq, Int.reduceBEq, Int.reduceLE, Int.reduceLT, Nat.reduceAdd, Nat.reduceEqDiff, Nat.reduceLT, Nat.reduceLeDiff, Nat.reduceMul, Nat.reduceSub, reduceIte]
  rw [ev_loop]
  refine Eq.trans (loop_list (Q := fun (_ : Unit) x => thenEnd E.P _ _ 1 (thenEv E _ _ _ _ _ (outOf 0 x)) = some (.own 0 false 79 2 ((pairsN bs ([], belowI bs 4 i, belowH 4 h) m).1.map (Includes.enc true)), [[.sl fl (bs.map byteA), .int .i64 ((pairsN bs ([], belowI bs 4 i, belowH 4 h) m).2.1 : Nat), .int .i64 (pairsN bs ([], belowI bs 4 i, belowH 4 h) m).2.2]])) (List.range m) (fun _ _ _ => .inr ()) id
    (fun j _ => { sl := [(0, .ptr 0 0), (3, .own 0 false 79 2 ((pairsN bs ([], belowI bs 4 i, belowH 4 h) j).1.map (Includes.enc true))), (4, .int .i64 (((m - j : Nat) : Int)))], bx := [(0, [.sl fl (bs.map byteA), .int .i64 ((pairsN bs ([], belowI bs 4 i, belowH 4 h) j).2.1 : Nat), .int .i64 (pairsN bs ([], belowI bs 4 i, belowH 4 h) j).2.2])], nx := 2, nt := 25 }) (fun _ _ => True) () ?_ ?_ (by simp; omega) trivial ?_) ?_
  · intro _ _
    rw [List.length_range, Nat.sub_self]
    have h0 : ¬ (0 : Int) < ((0 : Nat) : Int) := by omega
    simp -implicitDefEqProofs only [W3, ↓D3, ↓DA, ↓DP, ↓DC, QX, h0, look_nil, evCall_io1, evCall_io2, evCall_io3, evCall_io4, finJ_1, finJ_2, finJ_3, finJ_4, finJ_int, finJ_bool, finJ_str, finJ_nils, finJ_agg, finJ_own, finJ_sl, finJ_tup, look_cons, reduceCtorEq, evCall_mutOwn, evCall_mutAgg, evGive, giveRows, ioBoxes, mutArgs, roArgs, handArg, mutSlots, isPtrB, pairs, pairss, back_nil, back_cons, backO, backE, setBoxes, importB, mode_mut, mode_give, mode_io, mode_ro, List.zip_cons_cons, List.zip_nil_left, List.zip_nil_right, ite_self, ite_true, ite_false, finish_give, finish_mut1, finish_io0, finish_io2, finish_io3, finish_ioc, finI, finC, finW_ptr, SH, leaf_some, isNormal, Int.reduceToNat, id_eq, Int.reduceBEq, Int.reduceLE, Int.reduceLT, Nat.reduceAdd, Nat.reduceEqDiff, Nat.reduceLT, Nat.reduceLeDiff, Nat.reduceMul, Nat.reduceSub, reduceIte]
    repeat' (split <;> (rename_i h; (try simp -implicitDefEqProofs only [Bool.not_eq_true', Bool.not_eq_false', decide_eq_true_eq, decide_eq_false_iff_not] at h); (try simp -implicitDefEqProofs only [W3, ↓D3, ↓DA, ↓DP, ↓DC, QX, *, h0, look_nil, evCall_io1, evCall_io2, evCall_io3, evCall_io4, finJ_1, finJ_2, finJ_3, finJ_4, finJ_int, finJ_bool, finJ_str, finJ_nils, finJ_agg, finJ_own, finJ_sl, finJ_tup, look_cons, reduceCtorEq, evCall_mutOwn, evCall_mutAgg, evGive, giveRows, ioBoxes, mutArgs, roArgs, handArg, mutSlots, isPtrB, pairs, pairss, back_nil, back_cons, backO, backE, setBoxes, importB, mode_mut, mode_give, mode_io, mode_ro, List.zip_cons_cons, List.zip_nil_left, List.zip_nil_right, ite_self, ite_true, ite_false, finish_give, finish_mut1, finish_io0, finish_io2, finish_io3, finish_ioc, finI, finC, finW_ptr, SH, leaf_some, isNormal, Int.reduceToNat, id_eq, Int.reduceBEq, Int.reduceLE, Int.reduceLT, Nat.reduceAdd, Nat.reduceEqDiff, Nat.reduceLT, Nat.reduceLeDiff, Nat.reduceMul, Nat.reduceSub, reduceIte])))
  · intro pre z r _ hs' _
    have hpl : pre.length < m := by have := congrArg List.length hs'; simp at this; omega
    clear hs'
    have hp0 : (0 : Int) < ((m - pre.length : Nat) : Int) := by omega
    have hw1 : IntKind.i64.wrap (((m - pre.length : Nat) : Int) - 1) = ((m - (pre.length + 1) : Nat) : Int) := by rw [IntWalk.i64_in _ (by omega)]; omega
    have hln := pairsN_len (bs := bs) (b := ([], belowI bs 4 i, belowH 4 h)) pre.length
    simp -implicitDefEqProofs only [List.length_nil, Nat.zero_add] at hln
    simp -implicitDefEqProofs only [pairsN]
    generalize pairsN bs ([], belowI bs 4 i, belowH 4 h) pre.length = b at *
    obtain ⟨l, i1, h1⟩ := b
    simp only at hln
    have hm1 : (l.length + 1) * 16 ≤ 140737488355328 := by omega
    have hm2 : l.length + 1 ≤ 9223372036854775807 := by omega
    have hpl : ∀ x y : Int, plains [.agg [.int .i64 x, .int .i64 y]] = true := fun x y => rfl
    have hm9 : l.length ≤ 9223372036854775806 := by omega
    simp -implicitDefEqProofs only [W3, ↓D3, ↓DA, ↓DP, ↓DC, QX, hp0, hw1, c1, hpl, hm9, hm1, hm2, pairStep, List.map_append, enc_Includes, look_nil, evCall_io1, evCall_io2, evCall_io3, evCall_io4, finJ_1, finJ_2, finJ_3, finJ_4, finJ_int, finJ_bool, finJ_str, finJ_nils, finJ_agg, finJ_own, finJ_sl, finJ_tup, look_cons, reduceCtorEq, evCall_mutOwn, evCall_mutAgg, evGive, giveRows, ioBoxes, mutArgs, roArgs, handArg, mutSlots, isPtrB, pairs, pairss, back_nil, back_cons, backO, backE, setBoxes, importB, mode_mut, mode_give, mode_io, mode_ro, List.zip_cons_cons, List.zip_nil_left, List.zip_nil_right, ite_self, ite_true, ite_false, finish_give, finish_mut1, finish_io0, finish_io2, finish_io3, finish_ioc, finI, finC, finW_ptr, SH, keep_31_3, leaf_some, isNormal, Int.reduceToNat, id_eq, Int.reduceBEq, Int.reduceLE, Int.reduceLT, Nat.reduceAdd, Nat.reduceEqDiff, Nat.reduceLT, Nat.reduceLeDiff, Nat.reduceMul, Nat.reduceSub, reduceIte]
    repeat' (split <;> (rename_i h; (try simp -implicitDefEqProofs only [Bool.not_eq_true', Bool.not_eq_false', decide_eq_true_eq, decide_eq_false_iff_not] at h); (try simp -implicitDefEqProofs only [W3, ↓D3, ↓DA, ↓DP, ↓DC, QX, *, hp0, hw1, c1, hpl, hm9, hm1, hm2, pairStep, List.map_append, enc_Includes, look_nil, evCall_io1, evCall_io2, evCall_io3, evCall_io4, finJ_1, finJ_2, finJ_3, finJ_4, finJ_int, finJ_bool, finJ_str, finJ_nils, finJ_agg, finJ_own, finJ_sl, finJ_tup, look_cons, reduceCtorEq, evCall_mutOwn, evCall_mutAgg, evGive, giveRows, ioBoxes, mutArgs, roArgs, handArg, mutSlots, isPtrB, pairs, pairss, back_nil, back_cons, backO, backE, setBoxes, importB, mode_mut, mode_give, mode_io, mode_ro, List.zip_cons_cons, List.zip_nil_left, List.zip_nil_right, ite_self, ite_true, ite_false, finish_give, finish_mut1, finish_io0, finish_io2, finish_io3, finish_ioc, finI, finC, finW_ptr, SH, keep_31_3, leaf_some, isNormal, Int.reduceToNat, id_eq, Int.reduceBEq, Int.reduceLE, Int.reduceLT, Nat.reduceAdd, Nat.reduceEqDiff, Nat.reduceLT, Nat.reduceLeDiff, Nat.reduceMul, Nat.reduceSub, reduceIte])))
  · simp -implicitDefEqProofs only [firstRegion]
    rw [keep_31_3]
    simp -implicitDefEqProofs only [W3, ↓D3, ↓DA, ↓DP, ↓DC, pairsN, Nat.sub_zero, Int.reduceToNat, id_eq, Int.reduceBEq, Int.reduceLE, Int.reduceLT, SH, Nat.reduceAdd, Nat.reduceEqDiff, Nat.reduceLT, Nat.reduceLeDiff, Nat.reduceMul, Nat.reduceSub, reduceIte]
  · rfl
section
variable {α : Type} (M : Int → α → α) (W : α → Nat) (T : α → AV)
variable {M W T}
end
def rowN (id : Nat) : List AV → AV
  | [] => .nils
  | v :: vs => .own id false 28 4 (v :: vs)
theorem rowN_nil {id : Nat} : rowN id [] = .nils := rfl
theorem rowN_ne {id : Nat} {vs : List AV} (h : vs ≠ []) : rowN id vs = .own id false 28 4 vs := by cases vs with | nil => exact absurd rfl h | cons => rfl
section
variable {P : Program} {st : St}
def finCell (P : Program) (md : List Mode) (r : ResultVar) (st : St) : Option AV → Option (AV × List (List AV))
  | some v => if isPtrB v = true then finish P md [r] 1 st else finI st v
  | none => none
theorem finCell_some {md : List Mode} {r : ResultVar} {cs : List AV} : finCell P md r st (some (.agg cs)) = finI st (.agg cs) := rfl
theorem finish_cellM {m : Mode} {md : List Mode} {a t : Nat} (hm : mutSlots 0 (m :: md) = []) : finish P (m :: md) [.cell a t] 1 st = finCell P (m :: md) (.cell a t) st (evLoad P st.box t (st.get a)) := by
  cases h : evLoad P st.box t (st.get a) with
  | none =>
    unfold finish
    simp -implicitDefEqProofs only [resultsOf, resultOf, h, Option.map_none, Option.bind_none]
    rfl
  | some v =>
    unfold finCell
    split
    · rename_i v' hv
      obtain rfl := Option.some.inj hv
      split
      · rfl
      · rename_i hp
        rw [← finI_eq (isPtrB_no (by simpa using hp))]
        unfold finish
        simp -implicitDefEqProofs only [resultsOf, resultOf, h, Option.map_some, Option.bind_some, tupOf, hm]
        rfl
    · rename_i hv
      simp at hv
theorem finish_cell1 {a t : Nat} : finish P [.io] [.cell a t] 1 st = finCell P [.io] (.cell a t) st (evLoad P st.box t (st.get a)) := finish_cellM rfl
theorem finish_cell2 {a t : Nat} : finish P [.io, .ro] [.cell a t] 1 st = finCell P [.io, .ro] (.cell a t) st (evLoad P st.box t (st.get a)) := finish_cellM rfl
end
def leafN (bs : List Int) (age : Int) (i : Nat) (h : Int) : Nat → Draw Cond
  | 0 => (⟨1, 0, 0, []⟩, i, h)
  | 1 => (⟨2, below1 bs 3 i h, age, []⟩, belowI bs 3 i, belowH 3 h)
  | 2 => (⟨2, below1 bs 3 i h, age, []⟩, belowI bs 3 i, belowH 3 h)
  | 3 => (⟨3, 0, age, []⟩, i, h)
  | 4 => (⟨4, IntKind.i64.wrap (1 + below1 bs 3 i h), age, []⟩, belowI bs 3 i, belowH 3 h)
  | 5 => (⟨5, IntKind.i64.wrap (1 + below1 bs 2 i h), age, []⟩, belowI bs 2 i, belowH 2 h)
  | _ => (⟨6, oneOf bs [5, 15, 25] i h, 0, []⟩, belowI bs ((3 : Nat) : Int) i, belowH ((3 : Nat) : Int) h)
def leafD (bs : List Int) (i : Nat) (h : Int) : Draw Cond :=
  leafN bs (oneOf bs [3, 10, 20] i h) (belowI bs 7 (belowI bs ((3 : Nat) : Int) i)) (belowH 7 (belowH ((3 : Nat) : Int) h)) (below1 bs 7 (belowI bs ((3 : Nat) : Int) i) (belowH ((3 : Nat) : Int) h)).toNat
theorem leafN_args {bs : List Int} {age : Int} {i : Nat} {h : Int} (n : Nat) : (leafN bs age i h n).1.args = [] := by
  unfold leafN
  split <;> rfl
def Cond.dAV (x : Cond) : AV := .agg [.int .i64 x.op, .int .i64 x.a, .int .i64 x.b, rowN 0 (x.args.map (Cond.enc true))]
theorem r_spec_l15Leaf {fl : Bool} (k : Nat) (hk : 281474976710656 + 4 ≤ k) (bs : List Int) (hb : bs.length ≤ 140737488355328) (i : Nat) (h : Int) :
    run E noExt k 15 [.ptr 0 0] [[.sl fl (bs.map byteA), .int .i64 (i : Nat), .int .i64 h]] = some ((leafD bs i h).1.dAV, [[.sl fl (bs.map byteA), .int .i64 ((leafD bs i h).2.1 : Nat), .int .i64 (leafD bs i h).2.2]]) := by
  have c1 := fun n i h => r_spec_l1Below (fl := fl) (k - 1) (by omega) bs hb n i h
  have c2 := fun i h => r_spec_l1Int (fl := fl) (k - 1) (by omega) bs hb [3, 10, 20] (by decide) i h
  have c3 := fun i h => r_spec_l1Int (fl := fl) (k - 1) (by omega) bs hb [5, 15, 25] (by decide) i h
  have hlt := below_lt bs (n := 7) (by omega) (by omega) (belowI bs ((3 : Nat) : Int) i) (belowH ((3 : Nat) : Int) h)
  obtain ⟨k, rfl⟩ : ∃ j, k = j + 1 := ⟨k - 1, by omega⟩
  rw [run_succ rfl rfl, body_eq (nt := 41) (fn := Go.Proofs.Try.f15) (by kernel_rfl) rfl rfl rfl rfl rfl rfl rfl rfl]
  simp -implicitDefEqProofs only [Nat.add_sub_cancel, List.map_cons, List.map_nil, List.length_cons, List.length_nil, Nat.zero_add, Nat.reduceAdd] at c1 c2 c3
  unfold leafD
  generalize hd : below1 bs 7 (belowI bs ((3 : Nat) : Int) i) (belowH ((3 : Nat) : Int) h) = d at *
  have hm : d = 0 ∨ d = 1 ∨ d = 2 ∨ d = 3 ∨ d = 4 ∨ d = 5 ∨ d = 6 := by omega
  cases he : bs.isEmpty
  all_goals
    rcases hm with rfl | rfl | rfl | rfl | rfl | rfl | rfl
    all_goals
      simp -implicitDefEqProofs only [W3, ↓D3, ↓DA, ↓ref_bytes, he, leafN, finish_cell1, finish_cell2, finCell_some, Cond.dAV, rowN_nil, Go.Proofs.Try.f15, c1, c2, c3, hd, Int.reduceToNat, Int.reduceBEq, look_nil, evCall_io1, evCall_io2, evCall_io3, evCall_io4, finJ_1, finJ_2, finJ_3, finJ_4, finJ_int, finJ_bool, finJ_str, finJ_nils, finJ_agg, finJ_own, finJ_sl, finJ_tup, look_cons, reduceCtorEq, evCall_mutOwn, evCall_mutAgg, evGive, giveRows, ioBoxes, mutArgs, roArgs, handArg, mutSlots, isPtrB, pairs, pairss, back_nil, back_cons, backO, backE, setBoxes, importB, mode_mut, mode_give, mode_io, mode_ro, List.zip_cons_cons, List.zip_nil_left, List.zip_nil_right, ite_self, ite_true, ite_false, finish_give, finish_mut1, finish_io0, finish_io2, finish_io3, finish_ioc, finI, finC, finW_ptr, SH, noref, isRef, isPtr, noPtr, isBad, AV.isUndef, id_eq, Int.reduceLE, Int.reduceLT, AV.cells, AV.isCell, Value.cells, Nat.reduceAdd, Nat.reduceEqDiff, Nat.reduceLT, Nat.reduceLeDiff, Nat.reduceMul, Nat.reduceSub, reduceIte]
      try trace_state
def argsR (id : Nat) (x : Cond) : AV := rowN id (x.args.map (Cond.enc true))
def rowsD (id : Nat) (x : Cond) : List Nat := (argsR id x).rows
theorem argsR_cases (x : Cond) : (x.args = [] ∧ ∀ id, argsR id x = .nils ∧ rowsD id x = []) ∨ (x.args ≠ [] ∧ ∀ id, argsR id x = .own id false 28 4 (x.args.map (Cond.enc true)) ∧ rowsD id x = [id]) := by
  rcases Classical.em (x.args = []) with h | h
  · refine .inl ⟨h, fun id => ?_⟩
    have : argsR id x = .nils := by unfold argsR; rw [h]; rfl
    exact ⟨this, by unfold rowsD; rw [this]; rfl⟩
  · refine .inr ⟨h, fun id => ?_⟩
    have : argsR id x = .own id false 28 4 (x.args.map (Cond.enc true)) := rowN_ne (by simpa using h)
    exact ⟨this, by unfold rowsD; rw [this]; rfl⟩
theorem rows_argsR {id : Nat} {x : Cond} : (argsR id x).rows = rowsD id x := rfl
theorem boxes_argsR {id : Nat} {x : Cond} : (argsR id x).boxes = [] := by rcases argsR_cases x with ⟨_, h⟩ | ⟨_, h⟩ <;> rw [(h _).1] <;> rfl
theorem isCell_argsR {id : Nat} {x : Cond} : (argsR id x).isCell = true := by rcases argsR_cases x with ⟨_, h⟩ | ⟨_, h⟩ <;> rw [(h _).1] <;> rfl
theorem cells_argsR {id : Nat} {x : Cond} : (argsR id x).cells = [argsR id x] := by rcases argsR_cases x with ⟨_, h⟩ | ⟨_, h⟩ <;> rw [(h _).1] <;> rfl
theorem cellsX_agg {cs : List AV} : (AV.agg cs).cells = cs := rfl
theorem cellsX_int {k : IntKind} {n : Int} : (AV.int k n).cells = [.int k n] := rfl
theorem cellsX_bool {b : Bool} : (AV.bool b).cells = [.bool b] := rfl
theorem cellsX_str {s : ByteArray} : (AV.str s).cells = [.str s] := rfl
theorem cellsX_nils : AV.nils.cells = [.nils] := rfl
theorem cellsX_sl {f : Bool} {xs : List AV} : (AV.sl f xs).cells = [.sl f xs] := rfl
theorem cellsX_own {i : Nat} {f : Bool} {e s : Nat} {xs : List AV} : (AV.own i f e s xs).cells = [.own i f e s xs] := rfl
theorem cellsX_ptr {i o : Nat} : (AV.ptr i o).cells = [.ptr i o] := rfl
theorem cellsX_cptr {xs : List AV} : (AV.cptr xs).cells = [.cptr xs] := rfl
theorem cellsX_undef : AV.undef.cells = [.undef] := rfl
theorem dedup_rowsD {id : Nat} {x : Cond} : dedup (rowsD id x) = rowsD id x := by rcases argsR_cases x with ⟨_, h⟩ | ⟨_, h⟩ <;> rw [(h _).2] <;> rfl
theorem nodup_rowsD {id : Nat} {x : Cond} : nodupB (rowsD id x) = true := by rcases argsR_cases x with ⟨_, h⟩ | ⟨_, h⟩ <;> rw [(h _).2] <;> rfl
theorem all_rowsD {id : Nat} {x : Cond} : ((rowsD id x).all fun r => decide (r ∈ rowsD id x)) = true := by rcases argsR_cases x with ⟨_, h⟩ | ⟨_, h⟩ <;> rw [(h _).2] <;> simp
theorem small_rowsD {x : Cond} : ((rowsD 0 x).all fun i => decide (i < 8)) = true := by rcases argsR_cases x with ⟨_, h⟩ | ⟨_, h⟩ <;> rw [(h _).2] <;> simp
theorem bad_argsR {id : Nat} {x : Cond} : AV.any isBad (argsR id x) = false := by rcases argsR_cases x with ⟨_, h⟩ | ⟨_, h⟩ <;> rw [(h _).1] <;> rfl
theorem ptr_argsR {id : Nat} {x : Cond} : AV.any isPtr (argsR id x) = false := by rcases argsR_cases x with ⟨_, h⟩ | ⟨_, h⟩ <;> rw [(h _).1] <;> rfl
theorem mapO_argsR {id : Nat} {x : Cond} {p : Nat → Nat → AV} {h : Bool → Nat → Bool → Nat → Nat → List AV → Nat → Nat → AV} : AV.mapO (fun i fz e sz xs => .own (idx (rowsD id x) i) fz e sz xs) p h (fun _ => .nils) (argsR id x) = argsR 0 x := by
  rcases argsR_cases x with ⟨_, h⟩ | ⟨_, h⟩
  · rw [(h id).1, (h 0).1]; rfl
  · rw [(h id).1, (h 0).1, (h id).2]; simp [AV.mapO, idx]
theorem imp_argsR {nid id : Nat} {x : Cond} {p : Nat → Nat → AV} {h : Bool → Nat → Bool → Nat → Nat → List AV → Nat → Nat → AV} : AV.mapO (fun i fz e sz xs => .own (nid + i) fz e sz xs) p h (fun _ => .nils) (argsR id x) = argsR (nid + id) x := by
  rcases argsR_cases x with ⟨_, h⟩ | ⟨_, h⟩
  · rw [(h id).1, (h _).1]; rfl
  · rw [(h id).1, (h _).1]; rfl
theorem lend_argsR4 {bx : Nat → Option (List AV)} {id : Nat} {x : Cond} : lend bx 4 (argsR id x) = .sl true (x.args.map (Cond.enc true)) := by
  rcases argsR_cases x with ⟨h0, h⟩ | ⟨_, h⟩
  · rw [(h id).1, h0]; rfl
  · rw [(h id).1]
    simp -implicitDefEqProofs only [lend, AV.mapO, shuts_Cond]
theorem shut_argsR {id : Nat} {x : Cond} {p : Nat → Nat → AV} {h : Bool → Nat → Bool → Nat → Nat → List AV → Nat → Nat → AV} : AV.mapO (fun _ _ _ _ xs => .sl true (AV.shuts xs)) p h (fun _ => .sl true []) (argsR id x) = .sl true (x.args.map (Cond.enc true)) := by
  rcases argsR_cases x with ⟨h0, h⟩ | ⟨_, h⟩
  · rw [(h id).1, h0]; rfl
  · rw [(h id).1]
    simp -implicitDefEqProofs only [AV.mapO, shuts_Cond]
theorem mem_rowsD {i id : Nat} {x : Cond} (h : (i = id) = False) : (i ∈ rowsD id x) = False := by
  have h1 : i ≠ id := fun e => by rw [e] at h; simp at h
  rcases argsR_cases x with ⟨_, h⟩ | ⟨_, h⟩ <;> rw [(h _).2] <;> simp [h1]
theorem allmem_rowsD {i id : Nat} {x : Cond} (h : (i = id) = False) : ((rowsD id x).all fun r => !(decide (r ∈ [i]))) = true := by
  have h1 : id ≠ i := fun e => by subst e; simp at h
  rcases argsR_cases x with ⟨_, h⟩ | ⟨_, h⟩ <;> rw [(h _).2] <;> simp [h1]
theorem all_rowsT {id : Nat} {x : Cond} : ((rowsD id x).all fun _ => true) = true := by simp
theorem away_argsR {nid id : Nat} {bs : List Nat} {ld : Bool} {x : Cond} : away nid bs ld (argsR id x) = true := by rcases argsR_cases x with ⟨_, h⟩ | ⟨_, h⟩ <;> rw [(h _).1] <;> rfl
theorem calm_argsR {st : St} {id : Nat} {ids : List Nat} {ld : Bool} {x : Cond} : calm st ids ld (argsR id x) = (rowsD id x).all fun i => !(decide (i ∈ ids)) := by
  rcases argsR_cases x with ⟨_, h⟩ | ⟨_, h⟩ <;> rw [(h _).1, (h _).2]
  · rfl
  · simp [calm, AV.rows]
noncomputable def frD (ret : AV) (args : List AV) : List Nat := if noref ret = true then [] else args.flatMap AV.rows
mutual
theorem mapO_frz0 : ∀ v : AV, v.mapO (frzO []) .ptr (frzE []) (fun _ => .nils) = v
  | .own id fz e sz xs => by simp [AV.mapO, frzO]
  | .eptr d id fz e sz xs i k => by simp [AV.mapO, frzE]
  | .agg cs => by simp -implicitDefEqProofs only [AV.mapO]; rw [mapOs_frz0 cs]
  | .tup cs => by simp -implicitDefEqProofs only [AV.mapO]; rw [mapOs_frz0 cs]
  | .clo n cs => by simp -implicitDefEqProofs only [AV.mapO]; rw [mapOs_frz0 cs]
  | .ptr _ _ => rfl
  | .undef => rfl
  | .int _ _ => rfl
  | .bool _ => rfl
  | .str _ => rfl
  | .nils => rfl
  | .sl _ _ => rfl
  | .cptr _ => rfl
  | .tr _ _ _ => rfl
  | .gone => rfl
theorem mapOs_frz0 : ∀ vs : List AV, AV.mapOs (frzO []) .ptr (frzE []) (fun _ => .nils) vs = vs
  | [] => rfl
  | v :: vs => by simp -implicitDefEqProofs only [AV.mapOs]; rw [mapO_frz0 v, mapOs_frz0 vs]
end
theorem freeze_all {ids : List Nat} {st : St} : st.freeze ids = st.mapO (frzO ids) .ptr (frzE ids) := by
  cases ids with
  | cons => rfl
  | nil =>
    obtain ⟨sl, bx, nx, nt, tr⟩ := st
    simp -implicitDefEqProofs only [St.freeze, St.mapO]
    have h1 : (sl.map fun p => (p.1, AV.mapO (frzO []) .ptr (frzE []) (fun _ => .nils) p.2)) = sl := by
      have : (fun p : Nat × AV => (p.1, AV.mapO (frzO []) .ptr (frzE []) (fun _ => .nils) p.2)) = id := funext fun p => by rw [mapO_frz0]; rfl
      rw [this, List.map_id]
    have h2 : (bx.map fun p => (p.1, AV.mapOs (frzO []) .ptr (frzE []) (fun _ => .nils) p.2)) = bx := by
      have : (fun p : Nat × List AV => (p.1, AV.mapOs (frzO []) .ptr (frzE []) (fun _ => .nils) p.2)) = id := funext fun p => by rw [mapOs_frz0]; rfl
      rw [this, List.map_id]
    rw [h1, h2]
noncomputable def frB (c : Bool) (ids : List Nat) : List Nat := if c = true then [] else ids
theorem freeze_ite {c : Bool} {ids : List Nat} {st : St} : St.freeze (if c = true then [] else ids) st = st.mapO (frzO (frB c ids)) .ptr (frzE (frB c ids)) := freeze_all
theorem frzB_argsR {c : Bool} {i id : Nat} {x : Cond} (h : (i = id) = False) : AV.mapO (frzO (frB c [i])) .ptr (frzE (frB c [i])) (fun _ => .nils) (argsR id x) = argsR id x := by
  have h1 : id ≠ i := fun e => by subst e; simp at h
  have h2 : id ∉ frB c [i] := by unfold frB; split <;> simp [h1]
  rcases argsR_cases x with ⟨_, h⟩ | ⟨_, h⟩
  · rw [(h _).1]; rfl
  · rw [(h _).1]; simp -implicitDefEqProofs only [AV.mapO, frzO, if_neg h2]
theorem after_D {nid : Nat} {dst : Option Nat} {st : St} {args : List AV} {ret : AV} (hs : small ret = true) (hp : args.any (·.any isPtr) = false) : afterRo nid dst st args (some (ret, [])) = (st.mapO (frzO (frD ret args)) .ptr (frzE (frD ret args))).put dst (import_ nid ret) := by
  rw [← freeze_all]
  simp -implicitDefEqProofs only [afterRo, hs, if_true, hp, frD]
  split
  · rfl
  · simp
end Go.Proofs.Ytggkeechdakccaa.Flat
