/-
The draws: a new cursor.
-/
import Derived.Test.YtaojmienjikfbaaGreatDoorEqYM
import Derived.Test.YtaojmienjikfbaaGreatDoorEqS
set_option linter.unusedVariables false
set_option linter.unusedSimpArgs false
set_option maxRecDepth 10000
namespace Go.Proofs.YtaojmienjikfbaaGreatDoor.Flat
def hashS (_ : Nat) (z : Int) (h : Int) : Sum Int Int := .inr (bits .and .i64 (IntKind.i64.wrap (IntKind.i64.wrap (IntKind.i64.wrap (h * 137) + IntKind.i64.wrap z) + 11)) 1073741823)
def hashOf (bs : List Int) : Int := loopL hashS id 0 (bs.take 4000) (IntKind.i64.wrap (193017 + ((bs.length : Nat) : Int)))
theorem r_spec_l1New {fl : Bool} (k : Nat) (hk : 281474976710656 + 1 ≤ k) (bs : List Int) (hb : bs.length ≤ 140737488355328) :
    run E noExt k 61 [.sl fl (bs.map byteA)] [] = some (.ptr 0 0, [[.sl fl (bs.map byteA), .int .i64 0, .int .i64 (hashOf bs)]]) := by
  obtain ⟨k, rfl⟩ : ∃ j, k = j + 1 := ⟨k - 1, by omega⟩
  rw [run_succ rfl rfl, body_eq (nt := 32) (fn := Go.Proofs.Tryz.f61) (by kernel_rfl) rfl rfl rfl rfl rfl rfl rfl rfl]
  simp -implicitDefEqProofs only [W4, ↓D4, ↓DA, ↓DP, ↓DC, Go.Proofs.Tryz.f61, SH, dedup, nodupB, idx, AV.rows, AV.rowss, AV.mapO, AV.mapOs, Int.reduceToNat, id_eq, Int.reduceBEq, Int.reduceLE, Int.reduceLT, Nat.reduceAdd, Nat.reduceEqDiff, Nat.reduceLT, Nat.reduceLeDiff, Nat.reduceMul, Nat.reduceSub, reduceIte]
  rw [ev_loop]
  have hlen : (bs.take 4000).length = min 4000 bs.length := List.length_take
  refine Eq.trans (loop_list (Q := fun g x => thenEnd E.P _ _ 0 (thenEv E _ _ _ _ _ (outOf 0 x)) = some (.ptr 0 0, [[.sl fl (bs.map byteA), .int .i64 0, .int .i64 g]])) (bs.take 4000) hashS id
    (fun i h => { sl := [(0, .sl fl (bs.map byteA)), (3, .int .i64 h), (4, .int .i64 (i : Nat))], bx := [], nx := 0, nt := 32 }) (fun _ _ => True) (IntKind.i64.wrap (193017 + ((bs.length : Nat) : Int))) ?_ ?_ (by omega) trivial ?_) ?_
  · intro h _
    rcases Nat.lt_or_ge bs.length 4000 with hl | hl
    · have hm : (bs.take 4000).length = bs.length := by omega
      rw [hm]
      have hlt : ¬ ((bs.length : Nat) : Int) < ((bs.length : Nat) : Int) := by omega
      simp -implicitDefEqProofs only [W3, ↓D3, ↓DA, ↓DP, ↓DC, QX, hlt, id_eq, look_cons, reduceCtorEq, evCall, evGive, giveRows, ioBoxes, mutArgs, roArgs, handArg, mutSlots, isPtrB, pairs, pairss, back_nil, back_cons, backO, backE, setBoxes, importB, mode_mut, mode_give, mode_io, mode_ro, List.zip_cons_cons, List.zip_nil_left, List.zip_nil_right, ite_self, ite_true, ite_false, finish_give, finish_mut1, finish_io0, finish_io1, finish_io2, finish_io3, finish_ioc, finI, finC, finW_ptr, SH, leaf_some, isNormal, Int.reduceToNat, Int.reduceBEq, Int.reduceLE, Int.reduceLT, Nat.reduceAdd, Nat.reduceEqDiff, Nat.reduceLT, Nat.reduceLeDiff, Nat.reduceMul, Nat.reduceSub, reduceIte]
      repeat' (split <;> (rename_i h; (try simp -implicitDefEqProofs only [Bool.not_eq_true', Bool.not_eq_false', decide_eq_true_eq, decide_eq_false_iff_not] at h); (try simp -implicitDefEqProofs only [W3, ↓D3, ↓DA, ↓DP, ↓DC, QX, *, hlt, id_eq, look_cons, reduceCtorEq, evCall, evGive, giveRows, ioBoxes, mutArgs, roArgs, handArg, mutSlots, isPtrB, pairs, pairss, back_nil, back_cons, backO, backE, setBoxes, importB, mode_mut, mode_give, mode_io, mode_ro, List.zip_cons_cons, List.zip_nil_left, List.zip_nil_right, ite_self, ite_true, ite_false, finish_give, finish_mut1, finish_io0, finish_io1, finish_io2, finish_io3, finish_ioc, finI, finC, finW_ptr, SH, leaf_some, isNormal, Int.reduceToNat, Int.reduceBEq, Int.reduceLE, Int.reduceLT, Nat.reduceAdd, Nat.reduceEqDiff, Nat.reduceLT, Nat.reduceLeDiff, Nat.reduceMul, Nat.reduceSub, reduceIte])))
      all_goals (rw [finish_give rfl]; simp -implicitDefEqProofs only [W3, ↓D3, ↓DA, ↓DP, ↓DC, finW_ptr, Int.reduceToNat, id_eq, Int.reduceBEq, Int.reduceLE, Int.reduceLT, SH, Nat.reduceAdd, Nat.reduceEqDiff, Nat.reduceLT, Nat.reduceLeDiff, Nat.reduceMul, Nat.reduceSub, reduceIte])
    · have hm : (bs.take 4000).length = 4000 := by omega
      rw [hm]
      have h9 : ¬ ((4000 : Nat) : Int) < 4000 := by omega
      rcases Nat.lt_or_ge 4000 bs.length with hl2 | hl2
      · have hlt : ((4000 : Nat) : Int) < ((bs.length : Nat) : Int) := by omega
        simp -implicitDefEqProofs only [W3, ↓D3, ↓DA, ↓DP, ↓DC, QX, hlt, h9, id_eq, look_cons, reduceCtorEq, evCall, evGive, giveRows, ioBoxes, mutArgs, roArgs, handArg, mutSlots, isPtrB, pairs, pairss, back_nil, back_cons, backO, backE, setBoxes, importB, mode_mut, mode_give, mode_io, mode_ro, List.zip_cons_cons, List.zip_nil_left, List.zip_nil_right, ite_self, ite_true, ite_false, finish_give, finish_mut1, finish_io0, finish_io1, finish_io2, finish_io3, finish_ioc, finI, finC, finW_ptr, SH, leaf_some, isNormal, Int.reduceToNat, Int.reduceBEq, Int.reduceLE, Int.reduceLT, Nat.reduceAdd, Nat.reduceEqDiff, Nat.reduceLT, Nat.reduceLeDiff, Nat.reduceMul, Nat.reduceSub, reduceIte]
        repeat' (split <;> (rename_i h; (try simp -implicitDefEqProofs only [Bool.not_eq_true', Bool.not_eq_false', decide_eq_true_eq, decide_eq_false_iff_not] at h); (try simp -implicitDefEqProofs only [W3, ↓D3, ↓DA, ↓DP, ↓DC, QX, *, hlt, h9, id_eq, look_cons, reduceCtorEq, evCall, evGive, giveRows, ioBoxes, mutArgs, roArgs, handArg, mutSlots, isPtrB, pairs, pairss, back_nil, back_cons, backO, backE, setBoxes, importB, mode_mut, mode_give, mode_io, mode_ro, List.zip_cons_cons, List.zip_nil_left, List.zip_nil_right, ite_self, ite_true, ite_false, finish_give, finish_mut1, finish_io0, finish_io1, finish_io2, finish_io3, finish_ioc, finI, finC, finW_ptr, SH, leaf_some, isNormal, Int.reduceToNat, Int.reduceBEq, Int.reduceLE, Int.reduceLT, Nat.reduceAdd, Nat.reduceEqDiff, Nat.reduceLT, Nat.reduceLeDiff, Nat.reduceMul, Nat.reduceSub, reduceIte])))
        all_goals (rw [finish_give rfl]; simp -implicitDefEqProofs only [W3, ↓D3, ↓DA, ↓DP, ↓DC, finW_ptr, Int.reduceToNat, id_eq, Int.reduceBEq, Int.reduceLE, Int.reduceLT, SH, Nat.reduceAdd, Nat.reduceEqDiff, Nat.reduceLT, Nat.reduceLeDiff, Nat.reduceMul, Nat.reduceSub, reduceIte])
      · have hlt : ¬ ((4000 : Nat) : Int) < ((bs.length : Nat) : Int) := by omega
        simp -implicitDefEqProofs only [W3, ↓D3, ↓DA, ↓DP, ↓DC, QX, hlt, h9, id_eq, look_cons, reduceCtorEq, evCall, evGive, giveRows, ioBoxes, mutArgs, roArgs, handArg, mutSlots, isPtrB, pairs, pairss, back_nil, back_cons, backO, backE, setBoxes, importB, mode_mut, mode_give, mode_io, mode_ro, List.zip_cons_cons, List.zip_nil_left, List.zip_nil_right, ite_self, ite_true, ite_false, finish_give, finish_mut1, finish_io0, finish_io1, finish_io2, finish_io3, finish_ioc, finI, finC, finW_ptr, SH, leaf_some, isNormal, Int.reduceToNat, Int.reduceBEq, Int.reduceLE, Int.reduceLT, Nat.reduceAdd, Nat.reduceEqDiff, Nat.reduceLT, Nat.reduceLeDiff, Nat.reduceMul, Nat.reduceSub, reduceIte]
        repeat' (split <;> (rename_i h; (try simp -implicitDefEqProofs only [Bool.not_eq_true', Bool.not_eq_false', decide_eq_true_eq, decide_eq_false_iff_not] at h); (try simp -implicitDefEqProofs only [W3, ↓D3, ↓DA, ↓DP, ↓DC, QX, *, hlt, h9, id_eq, look_cons, reduceCtorEq, evCall, evGive, giveRows, ioBoxes, mutArgs, roArgs, handArg, mutSlots, isPtrB, pairs, pairss, back_nil, back_cons, backO, backE, setBoxes, importB, mode_mut, mode_give, mode_io, mode_ro, List.zip_cons_cons, List.zip_nil_left, List.zip_nil_right, ite_self, ite_true, ite_false, finish_give, finish_mut1, finish_io0, finish_io1, finish_io2, finish_io3, finish_ioc, finI, finC, finW_ptr, SH, leaf_some, isNormal, Int.reduceToNat, Int.reduceBEq, Int.reduceLE, Int.reduceLT, Nat.reduceAdd, Nat.reduceEqDiff, Nat.reduceLT, Nat.reduceLeDiff, Nat.reduceMul, Nat.reduceSub, reduceIte])))
        all_goals (rw [finish_give rfl]; simp -implicitDefEqProofs only [W3, ↓D3, ↓DA, ↓DP, ↓DC, finW_ptr, Int.reduceToNat, id_eq, Int.reduceBEq, Int.reduceLE, Int.reduceLT, SH, Nat.reduceAdd, Nat.reduceEqDiff, Nat.reduceLT, Nat.reduceLeDiff, Nat.reduceMul, Nat.reduceSub, reduceIte])
  · intro pre z r h hs' _
    have hpl : pre.length < 4000 ∧ pre.length < bs.length := by have := congrArg List.length hs'; simp at this; omega
    have hx : bs[pre.length]? = some z := by
      have h1 : (bs.take 4000)[pre.length]? = some z := by rw [hs']; simp
      rw [List.getElem?_take] at h1
      simpa [hpl.1] using h1
    have hlt : ((pre.length : Nat) : Int) < ((bs.length : Nat) : Int) := by omega
    have hlt2 : ((pre.length : Nat) : Int) < 4000 := by omega
    have hw1 : IntKind.i64.wrap (((pre.length : Nat) : Int) + 1) = ((pre.length + 1 : Nat) : Int) := by rw [IntWalk.i64_in _ (by omega)]; omega
    clear hs'
    simp -implicitDefEqProofs only [W3, ↓D3, ↓DA, ↓DP, ↓DC, QX, hx, hlt, hlt2, hw1, byteA_eq, op_convert, conv_u8, andI, hashS, SH, keep_61_3, leaf_some, isNormal, Int.reduceToNat, id_eq, Int.reduceBEq, Int.reduceLE, Int.reduceLT, Nat.reduceAdd, Nat.reduceEqDiff, Nat.reduceLT, Nat.reduceLeDiff, Nat.reduceMul, Nat.reduceSub, reduceIte]
    repeat' (split <;> (rename_i h; (try simp -implicitDefEqProofs only [Bool.not_eq_true', Bool.not_eq_false', decide_eq_true_eq, decide_eq_false_iff_not] at h); (try simp -implicitDefEqProofs only [W3, ↓D3, ↓DA, ↓DP, ↓DC, QX, *, hx, hlt, hlt2, hw1, byteA_eq, op_convert, conv_u8, andI, hashS, SH, keep_61_3, leaf_some, isNormal, Int.reduceToNat, id_eq, Int.reduceBEq, Int.reduceLE, Int.reduceLT, Nat.reduceAdd, Nat.reduceEqDiff, Nat.reduceLT, Nat.reduceLeDiff, Nat.reduceMul, Nat.reduceSub, reduceIte])))
  · simp -implicitDefEqProofs only [firstRegion]
    rw [keep_61_3]
    simp -implicitDefEqProofs only [W3, ↓D3, ↓DA, ↓DP, ↓DC, Int.reduceToNat, id_eq, Int.reduceBEq, Int.reduceLE, Int.reduceLT, SH, Nat.reduceAdd, Nat.reduceEqDiff, Nat.reduceLT, Nat.reduceLeDiff, Nat.reduceMul, Nat.reduceSub, reduceIte]
  · rfl
def pairStep (bs : List Int) (b : List Includes × Nat × Int) : List Includes × Nat × Int :=
  (b.1 ++ [⟨IntKind.i64.wrap (1 + below1 bs 5 b.2.1 b.2.2), below1 bs (IntKind.i64.wrap (1 + below1 bs 5 b.2.1 b.2.2)) (belowI bs 5 b.2.1) (belowH 5 b.2.2)⟩],
    belowI bs (IntKind.i64.wrap (1 + below1 bs 5 b.2.1 b.2.2)) (belowI bs 5 b.2.1), belowH (IntKind.i64.wrap (1 + below1 bs 5 b.2.1 b.2.2)) (belowH 5 b.2.2))
def pairsN (bs : List Int) (b : List Includes × Nat × Int) : Nat → List Includes × Nat × Int
  | 0 => b
  | n + 1 => pairStep bs (pairsN bs b n)
theorem pairsN_len {bs : List Int} {b : List Includes × Nat × Int} : ∀ n, (pairsN bs b n).1.length = b.1.length + n
  | 0 => rfl
  | n + 1 => by simp -implicitDefEqProofs only [pairsN, pairStep, List.length_append, pairsN_len n, List.length_cons, List.length_nil]; omega
def pairsD (bs : List Int) (i : Nat) (h : Int) : Draw (List Includes) := pairsN bs ([], belowI bs 4 i, belowH 4 h) (below1 bs 4 i h).toNat
theorem pairsD_len {bs : List Int} {i : Nat} {h : Int} : (pairsD bs i h).1.length ≤ 3 := by
  have := below_lt bs (n := 4) (by omega) (by omega) i h
  unfold pairsD
  rw [pairsN_len]
  simp -implicitDefEqProofs only [List.length_nil]
  omega
theorem r_spec_l14Pairs {fl : Bool} (k : Nat) (hk : 281474976710656 + 3 ≤ k) (bs : List Int) (hb : bs.length ≤ 140737488355328) (i : Nat) (h : Int) :
    run E noExt k 82 [.ptr 0 0] [[.sl fl (bs.map byteA), .int .i64 (i : Nat), .int .i64 h]] = some (.own 0 false 66 2 ((pairsD bs i h).1.map (Includes.enc true)), [[.sl fl (bs.map byteA), .int .i64 ((pairsD bs i h).2.1 : Nat), .int .i64 (pairsD bs i h).2.2]]) := by
  have c1 := fun n i h => r_spec_l1Below (fl := fl) (k - 1) (by omega) bs hb n i h
  have hlt := below_lt bs (n := 4) (by omega) (by omega) i h
  obtain ⟨k, rfl⟩ : ∃ j, k = j + 1 := ⟨k - 1, by omega⟩
  rw [run_succ rfl rfl, body_eq (nt := 25) (fn := Go.Proofs.Tryz.f82) (by kernel_rfl) rfl rfl rfl rfl rfl rfl rfl rfl]
  simp -implicitDefEqProofs only [Nat.add_sub_cancel] at c1
  unfold pairsD
  generalize hd : below1 bs 4 i h = d at *
  obtain ⟨m, rfl⟩ : ∃ m : Nat, d = (m : Int) := ⟨d.toNat, by omega⟩
  simp -implicitDefEqProofs only [W3, ↓D3, ↓DA, ↓DP, ↓DC, Go.Proofs.Tryz.f82, c1, hd, look_nil, evCall_io1, evCall_io2, evCall_io3, evCall_io4, finJ_1, finJ_2, finJ_3, finJ_4, finJ_int, finJ_bool, finJ_str, finJ_nils, finJ_agg, finJ_own, finJ_sl, finJ_tup, look_cons, reduceCtorEq, evCall_mutOwn, evCall_mutAgg, evGive, giveRows, ioBoxes, mutArgs, roArgs, handArg, mutSlots, isPtrB, pairs, pairss, back_nil, back_cons, backO, backE, setBoxes, importB, mode_mut, mode_give, mode_io, mode_ro, List.zip_cons_cons, List.zip_nil_left, List.zip_nil_right, ite_self, ite_true, ite_false, finish_give, finish_mut1, finish_io0, finish_io2, finish_io3, finish_ioc, finI, finC, finW_ptr, SH, Int.reduceToNat, id_eq, Int.reduceBEq, Int.reduceLE, Int.reduceLT, Nat.reduceAdd, Nat.reduceEqDiff, Nat.reduceLT, Nat.reduceLeDiff, Nat.reduceMul, Nat.reduceSub, reduceIte]
  rw [ev_loop]
  refine Eq.trans (loop_list (Q := fun (_ : Unit) x => thenEnd E.P _ _ 1 (thenEv E _ _ _ _ _ (outOf 0 x)) = some (.own 0 false 66 2 ((pairsN bs ([], belowI bs 4 i, belowH 4 h) m).1.map (Includes.enc true)), [[.sl fl (bs.map byteA), .int .i64 ((pairsN bs ([], belowI bs 4 i, belowH 4 h) m).2.1 : Nat), .int .i64 (pairsN bs ([], belowI bs 4 i, belowH 4 h) m).2.2]])) (List.range m) (fun _ _ _ => .inr ()) id
    (fun j _ => { sl := [(0, .ptr 0 0), (3, .own 0 false 66 2 ((pairsN bs ([], belowI bs 4 i, belowH 4 h) j).1.map (Includes.enc true))), (4, .int .i64 (((m - j : Nat) : Int)))], bx := [(0, [.sl fl (bs.map byteA), .int .i64 ((pairsN bs ([], belowI bs 4 i, belowH 4 h) j).2.1 : Nat), .int .i64 (pairsN bs ([], belowI bs 4 i, belowH 4 h) j).2.2])], nx := 2, nt := 25 }) (fun _ _ => True) () ?_ ?_ (by simp; omega) trivial ?_) ?_
  · intro _ _
    rw [List.length_range, Nat.sub_self]
    have h0 : ¬ (0 : Int) < ((0 : Nat) : Int) := by omega
    simp -implicitDefEqProofs only [W3, ↓D3, ↓DA, ↓DP, ↓DC, QX, h0, look_nil, evCall_io1, evCall_io2, evCall_io3, evCall_io4, finJ_1, finJ_2, finJ_3, finJ_4, finJ_int, finJ_bool, finJ_str, finJ_nils, finJ_agg, finJ_own, finJ_sl, finJ_tup, look_cons, reduceCtorEq, evCall_mutOwn, evCall_mutAgg, evGive, giveRows, ioBoxes, mutArgs, roArgs, handArg, mutSlots, isPtrB, pairs, pairss, back_nil, back_cons, backO, backE, setBoxes, importB, mode_mut, mode_give, mode_io, mode_ro, List.zip_cons_cons, List.zip_nil_left, List.zip_nil_right, ite_self, ite_true, ite_false, finish_give, finish_mut1, finish_io0, finish_io2, finish_io3, finish_ioc, finI, finC, finW_ptr, SH, leaf_some, isNormal, Int.reduceToNat, id_eq, Int.reduceBEq, Int.reduceLE, Int.reduceLT, Nat.reduceAdd, Nat.reduceEqDiff, Nat.reduceLT, Nat.reduceLeDiff, Nat.reduceMul, Nat.reduceSub, reduceIte]
    repeat' (split <;> (rename_i h; (try simp -implicitDefEqProofs only [Bool.not_eq_true', Bool.not_eq_false', decide_eq_true_eq, decide_eq_false_iff_not] at h); (try simp -implicitDefEqProofs only [W3, ↓D3, ↓DA, ↓DP, ↓DC, QX, *, h0, look_nil, evCall_io1, evCall_io2, evCall_io3, evCall_io4, finJ_1, finJ_2, finJ_3, finJ_4, finJ_int, finJ_bool, finJ_str, finJ_nils, finJ_agg, finJ_own, finJ_sl, finJ_tup, look_cons, reduceCtorEq, evCall_mutOwn, evCall_mutAgg, evGive, giveRows, ioBoxes, mutArgs, roArgs, handArg, mutSlots, isPtrB, pairs, pairss, back_nil, back_cons, backO, backE, setBoxes, importB, mode_mut, mode_give, mode_io, mode_ro, List.zip_cons_cons, List.zip_nil_left, List.zip_nil_right, ite_self, ite_true, ite_false, finish_give, finish_mut1, finish_io0, finish_io2, finish_io3, finish_ioc, finI, finC, finW_ptr, SH, leaf_some, isNormal, Int.reduceToNat, id_eq, Int.reduceBEq, Int.reduceLE, Int.reduceLT, Nat.reduceAdd, Nat.reduceEqDiff, Nat.reduceLT, Nat.reduceLeDiff, Nat.reduceMul, Nat.reduceSub, reduceIte])))
  · intro pre z r _ hs' _
    have hpl : pre.length < m := by have := congrArg List.length hs'; simp at this; omega
    clear hs'
    have hp0 : (0 : Int) < ((m - pre.length : Nat) : Int) := by omega
    have hw1 : IntKind.i64.wrap (((m - pre.length : Nat) : Int) - 1) = ((m - (pre.length + 1) : Nat) : Int) := by rw [IntWalk.i64_in _ (by omega)]; omega
    have hln := pairsN_len (bs := bs) (b := ([], belowI bs 4 i, belowH 4 h)) pre.length
    simp -implicitDefEqProofs only [List.length_nil, Nat.zero_add] at hln
    simp -implicitDefEqProofs only [pairsN]
    generalize pairsN bs ([], belowI bs 4 i, belowH 4 h) pre.length = b at *
    obtain ⟨l, i1, h1⟩ := b
    simp only at hln
    have hm1 : (l.length + 1) * 16 ≤ 140737488355328 := by omega
    have hm2 : l.length + 1 ≤ 9223372036854775807 := by omega
    have hpl : ∀ x y : Int, plains [.agg [.int .i64 x, .int .i64 y]] = true := fun x y => rfl
    have hm9 : l.length ≤ 9223372036854775806 := by omega
    simp -implicitDefEqProofs only [W3, ↓D3, ↓DA, ↓DP, ↓DC, QX, hp0, hw1, c1, hpl, hm9, hm1, hm2, pairStep, List.map_append, enc_Includes, look_nil, evCall_io1, evCall_io2, evCall_io3, evCall_io4, finJ_1, finJ_2, finJ_3, finJ_4, finJ_int, finJ_bool, finJ_str, finJ_nils, finJ_agg, finJ_own, finJ_sl, finJ_tup, look_cons, reduceCtorEq, evCall_mutOwn, evCall_mutAgg, evGive, giveRows, ioBoxes, mutArgs, roArgs, handArg, mutSlots, isPtrB, pairs, pairss, back_nil, back_cons, backO, backE, setBoxes, importB, mode_mut, mode_give, mode_io, mode_ro, List.zip_cons_cons, List.zip_nil_left, List.zip_nil_right, ite_self, ite_true, ite_false, finish_give, finish_mut1, finish_io0, finish_io2, finish_io3, finish_ioc, finI, finC, finW_ptr, SH, keep_82_3, leaf_some, isNormal, Int.reduceToNat, id_eq, Int.reduceBEq, Int.reduceLE, Int.reduceLT, Nat.reduceAdd, Nat.reduceEqDiff, Nat.reduceLT, Nat.reduceLeDiff, Nat.reduceMul, Nat.reduceSub, reduceIte]
    repeat' (split <;> (rename_i h; (try simp -implicitDefEqProofs only [Bool.not_eq_true', Bool.not_eq_false', decide_eq_true_eq, decide_eq_false_iff_not] at h); (try simp -implicitDefEqProofs only [W3, ↓D3, ↓DA, ↓DP, ↓DC, QX, *, hp0, hw1, c1, hpl, hm9, hm1, hm2, pairStep, List.map_append, enc_Includes, look_nil, evCall_io1, evCall_io2, evCall_io3, evCall_io4, finJ_1, finJ_2, finJ_3, finJ_4, finJ_int, finJ_bool, finJ_str, finJ_nils, finJ_agg, finJ_own, finJ_sl, finJ_tup, look_cons, reduceCtorEq, evCall_mutOwn, evCall_mutAgg, evGive, giveRows, ioBoxes, mutArgs, roArgs, handArg, mutSlots, isPtrB, pairs, pairss, back_nil, back_cons, backO, backE, setBoxes, importB, mode_mut, mode_give, mode_io, mode_ro, List.zip_cons_cons, List.zip_nil_left, List.zip_nil_right, ite_self, ite_true, ite_false, finish_give, finish_mut1, finish_io0, finish_io2, finish_io3, finish_ioc, finI, finC, finW_ptr, SH, keep_82_3, leaf_some, isNormal, Int.reduceToNat, id_eq, Int.reduceBEq, Int.reduceLE, Int.reduceLT, Nat.reduceAdd, Nat.reduceEqDiff, Nat.reduceLT, Nat.reduceLeDiff, Nat.reduceMul, Nat.reduceSub, reduceIte])))
  · simp -implicitDefEqProofs only [firstRegion]
    rw [keep_82_3]
    simp -implicitDefEqProofs only [W3, ↓D3, ↓DA, ↓DP, ↓DC, pairsN, Nat.sub_zero, Int.reduceToNat, id_eq, Int.reduceBEq, Int.reduceLE, Int.reduceLT, SH, Nat.reduceAdd, Nat.reduceEqDiff, Nat.reduceLT, Nat.reduceLeDiff, Nat.reduceMul, Nat.reduceSub, reduceIte]
  · rfl
section
variable {α : Type} (M : Int → α → α) (W : α → Nat) (T : α → AV)
variable {M W T}
end
def cellN : List AV → AV
  | [] => .sl true []
  | v :: vs => .tr 61 4 (v :: vs)
def rowN (id : Nat) : List AV → AV
  | [] => .nils
  | v :: vs => .own id false 61 4 (v :: vs)
theorem cellN_nil : cellN [] = .sl true [] := rfl
theorem cellN_ne {vs : List AV} (h : vs ≠ []) : cellN vs = .tr 61 4 vs := by cases vs with | nil => exact absurd rfl h | cons => rfl
theorem rowN_nil {id : Nat} : rowN id [] = .nils := rfl
theorem rowN_ne {id : Nat} {vs : List AV} (h : vs ≠ []) : rowN id vs = .own id false 61 4 vs := by cases vs with | nil => exact absurd rfl h | cons => rfl
mutual
def Cond.tencN : Cond → AV
  | ⟨o, a, b, s⟩ => .agg [.int .i64 o, .int .i64 a, .int .i64 b, cellN (Cond.tencNs s)]
def Cond.tencNs : List Cond → List AV
  | [] => []
  | c :: r => c.tencN :: Cond.tencNs r
end
theorem tencNs_map (s : List Cond) : Cond.tencNs s = s.map Cond.tencN := by
  induction s with
  | nil => simp [Cond.tencNs]
  | cons c r ih => simp [Cond.tencNs, ih]
theorem tencN_eq {x : Cond} : x.tencN = .agg [.int .i64 x.op, .int .i64 x.a, .int .i64 x.b, cellN (x.args.map Cond.tencN)] := by
  cases x
  simp -implicitDefEqProofs only [Cond.tencN, tencNs_map]
theorem shut_cellN {vs : List AV} : (cellN vs).shut = .sl true (AV.shuts vs) := by cases vs <;> rfl
theorem scal_cellN {vs : List AV} (h : AV.scals vs = true) : (cellN vs).scal = true := by cases vs with | nil => rfl | cons => simpa [cellN, AV.scal] using h
theorem tshut_N (x : Cond) : x.tencN.shut = x.enc true := by
  induction x using Cond.induct with
  | h x ih =>
    rw [tencN_eq, enc_Cond]
    have h : ∀ s : List Cond, (∀ c ∈ s, c.tencN.shut = c.enc true) → AV.shuts (s.map Cond.tencN) = s.map (Cond.enc true) := by
      intro s
      induction s with
      | nil => intro _; rfl
      | cons c r ihr => intro hc; simp -implicitDefEqProofs only [List.map_cons, AV.shuts]; rw [hc c (by simp), ihr fun d hd => hc d (List.mem_cons_of_mem _ hd)]
    simp -implicitDefEqProofs only [AV.shut, AV.shuts, shut_cellN, h x.args ih]
theorem tshuts_N {l : List Cond} : AV.shuts (l.map Cond.tencN) = l.map (Cond.enc true) := by
  induction l with
  | nil => rfl
  | cons c r ih => simp -implicitDefEqProofs only [List.map_cons, AV.shuts, ih, tshut_N]
theorem tscal_N (x : Cond) : x.tencN.scal = true := by
  induction x using Cond.induct with
  | h x ih =>
    rw [tencN_eq]
    have h : ∀ s : List Cond, (∀ c ∈ s, c.tencN.scal = true) → AV.scals (s.map Cond.tencN) = true := by
      intro s
      induction s with
      | nil => intro _; rfl
      | cons c r ihr => intro hc; simp -implicitDefEqProofs only [List.map_cons, AV.scals]; rw [hc c (by simp), ihr fun d hd => hc d (List.mem_cons_of_mem _ hd)]; rfl
    simp -implicitDefEqProofs only [AV.scal, AV.scals, scal_cellN (h x.args ih), Bool.and_self]
theorem tscals_N (s : List Cond) : AV.scals (s.map Cond.tencN) = true := by
  induction s with
  | nil => rfl
  | cons c r ih => simp -implicitDefEqProofs only [List.map_cons, AV.scals, ih, Bool.and_true, tscal_N]
def Cond.copyAV (x : Cond) : AV := .agg [.int .i64 x.op, .int .i64 x.a, .int .i64 x.b, rowN 0 (x.args.map Cond.tencN)]
theorem r_spec_l15Copy0 {fl : Bool} (x : Cond) : ∀ k, 281474976710656 + 4 * x.w + 2 ≤ k → x.w ≤ 1099511627776 → run E noExt k 150 [x.enc fl] [] = some (x.copyAV, []) := by
  induction x using Cond.induct with
  | h x ih =>
    intro k hk hx
    rw [x.w_eq] at hk hx
    have hs1 := wl_length Cond.w x.args
    have hs : x.args.length ≤ 140737488355328 := by omega
    have cc := fun c hc => ih c hc (k - 1) (by have := wl_mem (w := Cond.w) hc; omega) (by have := wl_mem (w := Cond.w) hc; omega)
    unfold Cond.copyAV at cc ⊢
    obtain ⟨k, rfl⟩ : ∃ j, k = j + 1 := ⟨k - 1, by omega⟩
    rw [run_succ rfl rfl, body_eq (nt := 31) (fn := Go.Proofs.Tryz.f150) (by kernel_rfl) rfl rfl rfl rfl rfl rfl rfl rfl]
    simp -implicitDefEqProofs only [Nat.add_sub_cancel, enc_Cond] at cc
    clear ih
    simp -implicitDefEqProofs only [W4, ↓D4, ↓DA, ↓DP, ↓DC, Go.Proofs.Tryz.f150, enc_Cond, SH, dedup, nodupB, idx, AV.rows, AV.rowss, AV.mapO, AV.mapOs, Int.reduceToNat, id_eq, Int.reduceBEq, Int.reduceLE, Int.reduceLT, Nat.reduceAdd, Nat.reduceEqDiff, Nat.reduceLT, Nat.reduceLeDiff, Nat.reduceMul, Nat.reduceSub, reduceIte]
    rw [ev_loop]
    refine loop_list (Q := fun (_ : Unit) z => thenEnd E.P [] _ 0 (thenEv E _ _ _ _ _ (outOf 0 z)) = some (.agg [.int .i64 x.op, .int .i64 x.a, .int .i64 x.b, rowN 0 (x.args.map Cond.tencN)], [])) x.args (fun _ _ _ => .inr ()) id
      (fun i _ => { sl := [(1, .ptr 0 0), (2, .ptr 1 0), (3, .ptr 2 0), (4, .int .i64 (i : Nat))], bx := [(0, [.int .i64 x.op, .int .i64 x.a, .int .i64 x.b, .sl fl (x.args.map (Cond.enc fl))]), (1, [.int .i64 0, .int .i64 0, .int .i64 0, .nils]), (2, [.int .i64 x.op, .int .i64 x.a, .int .i64 x.b, rowN 0 ((x.args.take i).map Cond.tencN)])], nx := (AV.rows (rowN 0 ((x.args.take i).map Cond.tencN))).length + 3, nt := 31, tree := true }) (fun _ _ => True) () ?_ ?_ ?_ trivial ?_
    · intro _ _
      rcases Classical.em (x.args = []) with h | h
      · simp -implicitDefEqProofs only [h, List.take_nil, List.map_nil, rowN_nil, List.length_nil]
        simp -implicitDefEqProofs only [W3, ↓D3, ↓DA, ↓DP, ↓DC, QX, SH, leaf_some, isNormal, Int.reduceToNat, id_eq, Int.reduceBEq, Int.reduceLE, Int.reduceLT, Nat.reduceAdd, Nat.reduceEqDiff, Nat.reduceLT, Nat.reduceLeDiff, Nat.reduceMul, Nat.reduceSub, reduceIte]
        repeat' (split <;> (rename_i h; (try simp -implicitDefEqProofs only [Bool.not_eq_true', Bool.not_eq_false', decide_eq_true_eq, decide_eq_false_iff_not] at h); (try simp -implicitDefEqProofs only [W3, ↓D3, ↓DA, ↓DP, ↓DC, QX, *, SH, leaf_some, isNormal, Int.reduceToNat, id_eq, Int.reduceBEq, Int.reduceLE, Int.reduceLT, Nat.reduceAdd, Nat.reduceEqDiff, Nat.reduceLT, Nat.reduceLeDiff, Nat.reduceMul, Nat.reduceSub, reduceIte])))
      · have h' : x.args.map Cond.tencN ≠ [] := fun e => h (List.map_eq_nil_iff.1 e)
        rw [List.take_length]
        simp -implicitDefEqProofs only [rowN_ne h']
        simp -implicitDefEqProofs only [W3, ↓D3, ↓DA, ↓DP, ↓DC, QX, SH, leaf_some, isNormal, Int.reduceToNat, id_eq, Int.reduceBEq, Int.reduceLE, Int.reduceLT, Nat.reduceAdd, Nat.reduceEqDiff, Nat.reduceLT, Nat.reduceLeDiff, Nat.reduceMul, Nat.reduceSub, reduceIte]
        repeat' (split <;> (rename_i h; (try simp -implicitDefEqProofs only [Bool.not_eq_true', Bool.not_eq_false', decide_eq_true_eq, decide_eq_false_iff_not] at h); (try simp -implicitDefEqProofs only [W3, ↓D3, ↓DA, ↓DP, ↓DC, QX, *, SH, leaf_some, isNormal, Int.reduceToNat, id_eq, Int.reduceBEq, Int.reduceLE, Int.reduceLT, Nat.reduceAdd, Nat.reduceEqDiff, Nat.reduceLT, Nat.reduceLeDiff, Nat.reduceMul, Nat.reduceSub, reduceIte])))
    · intro pre c r _ hs' _
      have hx := (at_row hs' hs).1; have hc := (at_row hs' hs).2.1; have hlt := (at_row hs' hs).2.2.1; have hw1 := (at_row hs' hs).2.2.2.1; have hl9 := (at_row hs' hs).2.2.2.2
      obtain ⟨ht1, ht2⟩ := take_row hs'
      have hpre : pre.length + 1 ≤ x.args.length := by omega
      clear hs'
      have c2 := cc c hc
      have hm1 : (pre.length + 1) * 48 ≤ 140737488355328 := by omega
      have hm2 : pre.length + 1 ≤ 9223372036854775807 := by omega
      have hm9 : pre.length ≤ 9223372036854775806 := by omega
      have hsc := tscals_N c.args
      rw [ht1, ht2, List.map_append]
      have hne : pre.map Cond.tencN ++ [c].map Cond.tencN ≠ [] := by simp
      simp -implicitDefEqProofs only [rowN_ne hne]
      have hel : [c].map Cond.tencN = [.agg [.int .i64 c.op, .int .i64 c.a, .int .i64 c.b, cellN (c.args.map Cond.tencN)]] := by simp [tencN_eq]
      rw [hel]
      rcases Classical.em (c.args.map Cond.tencN = []) with h2 | h2
      · rw [h2] at c2
        simp -implicitDefEqProofs only [rowN_nil] at c2
        rw [h2, cellN_nil]
        rcases Classical.em (pre.map Cond.tencN = []) with h1 | h1
        · rw [h1]
          simp -implicitDefEqProofs only [rowN_nil, List.nil_append]
          simp -implicitDefEqProofs only [W3, ↓D3, ↓DA, ↓DP, ↓DC, QX, enc_Cond, hx, hlt, hw1, c2, plan_150_5, SH, keep_150_3, leaf_some, isNormal, Int.reduceToNat, id_eq, Int.reduceBEq, Int.reduceLE, Int.reduceLT, Nat.reduceAdd, Nat.reduceEqDiff, Nat.reduceLT, Nat.reduceLeDiff, Nat.reduceMul, Nat.reduceSub, reduceIte]
          repeat' (split <;> (rename_i h; (try simp -implicitDefEqProofs only [Bool.not_eq_true', Bool.not_eq_false', decide_eq_true_eq, decide_eq_false_iff_not] at h); (try simp -implicitDefEqProofs only [W3, ↓D3, ↓DA, ↓DP, ↓DC, QX, *, enc_Cond, hx, hlt, hw1, c2, plan_150_5, SH, keep_150_3, leaf_some, isNormal, Int.reduceToNat, id_eq, Int.reduceBEq, Int.reduceLE, Int.reduceLT, Nat.reduceAdd, Nat.reduceEqDiff, Nat.reduceLT, Nat.reduceLeDiff, Nat.reduceMul, Nat.reduceSub, reduceIte])))
        · simp -implicitDefEqProofs only [rowN_ne h1]
          simp -implicitDefEqProofs only [W3, ↓D3, ↓DA, ↓DP, ↓DC, QX, enc_Cond, hx, hlt, hw1, c2, hm1, hm2, hm9, plan_150_5, SH, keep_150_3, leaf_some, isNormal, Int.reduceToNat, id_eq, Int.reduceBEq, Int.reduceLE, Int.reduceLT, Nat.reduceAdd, Nat.reduceEqDiff, Nat.reduceLT, Nat.reduceLeDiff, Nat.reduceMul, Nat.reduceSub, reduceIte]
          repeat' (split <;> (rename_i h; (try simp -implicitDefEqProofs only [Bool.not_eq_true', Bool.not_eq_false', decide_eq_true_eq, decide_eq_false_iff_not] at h); (try simp -implicitDefEqProofs only [W3, ↓D3, ↓DA, ↓DP, ↓DC, QX, *, enc_Cond, hx, hlt, hw1, c2, hm1, hm2, hm9, plan_150_5, SH, keep_150_3, leaf_some, isNormal, Int.reduceToNat, id_eq, Int.reduceBEq, Int.reduceLE, Int.reduceLT, Nat.reduceAdd, Nat.reduceEqDiff, Nat.reduceLT, Nat.reduceLeDiff, Nat.reduceMul, Nat.reduceSub, reduceIte])))
      · simp -implicitDefEqProofs only [rowN_ne h2] at c2
        rw [cellN_ne h2]
        rcases Classical.em (pre.map Cond.tencN = []) with h1 | h1
        · rw [h1]
          simp -implicitDefEqProofs only [rowN_nil, List.nil_append]
          simp -implicitDefEqProofs only [W3, ↓D3, ↓DA, ↓DP, ↓DC, QX, enc_Cond, hx, hlt, hw1, c2, hsc, plan_150_5, SH, keep_150_3, leaf_some, isNormal, Int.reduceToNat, id_eq, Int.reduceBEq, Int.reduceLE, Int.reduceLT, Nat.reduceAdd, Nat.reduceEqDiff, Nat.reduceLT, Nat.reduceLeDiff, Nat.reduceMul, Nat.reduceSub, reduceIte]
          repeat' (split <;> (rename_i h; (try simp -implicitDefEqProofs only [Bool.not_eq_true', Bool.not_eq_false', decide_eq_true_eq, decide_eq_false_iff_not] at h); (try simp -implicitDefEqProofs only [W3, ↓D3, ↓DA, ↓DP, ↓DC, QX, *, enc_Cond, hx, hlt, hw1, c2, hsc, plan_150_5, SH, keep_150_3, leaf_some, isNormal, Int.reduceToNat, id_eq, Int.reduceBEq, Int.reduceLE, Int.reduceLT, Nat.reduceAdd, Nat.reduceEqDiff, Nat.reduceLT, Nat.reduceLeDiff, Nat.reduceMul, Nat.reduceSub, reduceIte])))
        · simp -implicitDefEqProofs only [rowN_ne h1]
          simp -implicitDefEqProofs only [W3, ↓D3, ↓DA, ↓DP, ↓DC, QX, enc_Cond, hx, hlt, hw1, c2, hsc, hm1, hm2, hm9, plan_150_5, SH, keep_150_3, leaf_some, isNormal, Int.reduceToNat, id_eq, Int.reduceBEq, Int.reduceLE, Int.reduceLT, Nat.reduceAdd, Nat.reduceEqDiff, Nat.reduceLT, Nat.reduceLeDiff, Nat.reduceMul, Nat.reduceSub, reduceIte]
          repeat' (split <;> (rename_i h; (try simp -implicitDefEqProofs only [Bool.not_eq_true', Bool.not_eq_false', decide_eq_true_eq, decide_eq_false_iff_not] at h); (try simp -implicitDefEqProofs only [W3, ↓D3, ↓DA, ↓DP, ↓DC, QX, *, enc_Cond, hx, hlt, hw1, c2, hsc, hm1, hm2, hm9, plan_150_5, SH, keep_150_3, leaf_some, isNormal, Int.reduceToNat, id_eq, Int.reduceBEq, Int.reduceLE, Int.reduceLT, Nat.reduceAdd, Nat.reduceEqDiff, Nat.reduceLT, Nat.reduceLeDiff, Nat.reduceMul, Nat.reduceSub, reduceIte])))
    · omega
    · simp -implicitDefEqProofs only [firstRegion]
      rw [keep_150_3]
      simp -implicitDefEqProofs only [W3, ↓D3, ↓DA, ↓DP, ↓DC, rowN_nil, Int.reduceToNat, id_eq, Int.reduceBEq, Int.reduceLE, Int.reduceLT, SH, Nat.reduceAdd, Nat.reduceEqDiff, Nat.reduceLT, Nat.reduceLeDiff, Nat.reduceMul, Nat.reduceSub, reduceIte]
theorem r_spec_l15Copy {fl : Bool} (k : Nat) (hk : 290271069732864 + 2 ≤ k) (x : Cond) (hx : x.w ≤ 1099511627776) : run E noExt k 150 [x.enc fl] [] = some (x.copyAV, []) := r_spec_l15Copy0 x k (by omega) hx
def Rule.tencN (r : Rule) : AV := .agg [.int .i64 r.effect, .int .i64 r.action, .int .i64 r.object, .int .i64 r.cond.op, .int .i64 r.cond.a, .int .i64 r.cond.b, cellN (r.cond.args.map Cond.tencN)]
section
variable {P : Program} {st : St}
def finCell (P : Program) (md : List Mode) (r : ResultVar) (st : St) : Option AV → Option (AV × List (List AV))
  | some v => if isPtrB v = true then finish P md [r] 1 st else finI st v
  | none => none
theorem finCell_some {md : List Mode} {r : ResultVar} {cs : List AV} : finCell P md r st (some (.agg cs)) = finI st (.agg cs) := rfl
theorem finish_cellM {m : Mode} {md : List Mode} {a t : Nat} (hm : mutSlots 0 (m :: md) = []) : finish P (m :: md) [.cell a t] 1 st = finCell P (m :: md) (.cell a t) st (evLoad P st.box t (st.get a)) := by
  cases h : evLoad P st.box t (st.get a) with
  | none =>
    unfold finish
    simp -implicitDefEqProofs only [resultsOf, resultOf, h, Option.map_none, Option.bind_none]
    rfl
  | some v =>
    unfold finCell
    split
    · rename_i v' hv
      obtain rfl := Option.some.inj hv
      split
      · rfl
      · rename_i hp
        rw [← finI_eq (isPtrB_no (by simpa using hp))]
        unfold finish
        simp -implicitDefEqProofs only [resultsOf, resultOf, h, Option.map_some, Option.bind_some, tupOf, hm]
        rfl
    · rename_i hv
      simp at hv
theorem finish_cell1 {a t : Nat} : finish P [.io] [.cell a t] 1 st = finCell P [.io] (.cell a t) st (evLoad P st.box t (st.get a)) := finish_cellM rfl
theorem finish_cell2 {a t : Nat} : finish P [.io, .ro] [.cell a t] 1 st = finCell P [.io, .ro] (.cell a t) st (evLoad P st.box t (st.get a)) := finish_cellM rfl
end
def leafN (bs : List Int) (age : Int) (i : Nat) (h : Int) : Nat → Draw Cond
  | 0 => (⟨1, 0, 0, []⟩, i, h)
  | 1 => (⟨2, below1 bs 3 i h, age, []⟩, belowI bs 3 i, belowH 3 h)
  | 2 => (⟨2, below1 bs 3 i h, age, []⟩, belowI bs 3 i, belowH 3 h)
  | 3 => (⟨3, 0, age, []⟩, i, h)
  | 4 => (⟨4, IntKind.i64.wrap (1 + below1 bs 3 i h), age, []⟩, belowI bs 3 i, belowH 3 h)
  | 5 => (⟨5, IntKind.i64.wrap (1 + below1 bs 2 i h), age, []⟩, belowI bs 2 i, belowH 2 h)
  | _ => (⟨6, oneOf bs [5, 15, 25] i h, 0, []⟩, belowI bs ((3 : Nat) : Int) i, belowH ((3 : Nat) : Int) h)
def leafD (bs : List Int) (i : Nat) (h : Int) : Draw Cond :=
  leafN bs (oneOf bs [3, 10, 20] i h) (belowI bs 7 (belowI bs ((3 : Nat) : Int) i)) (belowH 7 (belowH ((3 : Nat) : Int) h)) (below1 bs 7 (belowI bs ((3 : Nat) : Int) i) (belowH ((3 : Nat) : Int) h)).toNat
theorem leafN_args {bs : List Int} {age : Int} {i : Nat} {h : Int} (n : Nat) : (leafN bs age i h n).1.args = [] := by
  unfold leafN
  split <;> rfl
def Cond.dAV (x : Cond) : AV := .agg [.int .i64 x.op, .int .i64 x.a, .int .i64 x.b, rowN 0 (x.args.map (Cond.enc true))]
theorem r_spec_l15Leaf {fl : Bool} (k : Nat) (hk : 281474976710656 + 4 ≤ k) (bs : List Int) (hb : bs.length ≤ 140737488355328) (i : Nat) (h : Int) :
    run E noExt k 114 [.ptr 0 0] [[.sl fl (bs.map byteA), .int .i64 (i : Nat), .int .i64 h]] = some ((leafD bs i h).1.dAV, [[.sl fl (bs.map byteA), .int .i64 ((leafD bs i h).2.1 : Nat), .int .i64 (leafD bs i h).2.2]]) := by
  have c1 := fun n i h => r_spec_l1Below (fl := fl) (k - 1) (by omega) bs hb n i h
  have c2 := fun i h => r_spec_l1Int (fl := fl) (k - 1) (by omega) bs hb [3, 10, 20] (by decide) i h
  have c3 := fun i h => r_spec_l1Int (fl := fl) (k - 1) (by omega) bs hb [5, 15, 25] (by decide) i h
  have hlt := below_lt bs (n := 7) (by omega) (by omega) (belowI bs ((3 : Nat) : Int) i) (belowH ((3 : Nat) : Int) h)
  obtain ⟨k, rfl⟩ : ∃ j, k = j + 1 := ⟨k - 1, by omega⟩
  rw [run_succ rfl rfl, body_eq (nt := 41) (fn := Go.Proofs.Tryz.f114) (by kernel_rfl) rfl rfl rfl rfl rfl rfl rfl rfl]
  simp -implicitDefEqProofs only [Nat.add_sub_cancel, List.map_cons, List.map_nil, List.length_cons, List.length_nil, Nat.zero_add, Nat.reduceAdd] at c1 c2 c3
  unfold leafD
  generalize hd : below1 bs 7 (belowI bs ((3 : Nat) : Int) i) (belowH ((3 : Nat) : Int) h) = d at *
  have hm : d = 0 ∨ d = 1 ∨ d = 2 ∨ d = 3 ∨ d = 4 ∨ d = 5 ∨ d = 6 := by omega
  cases he : bs.isEmpty
  all_goals
    rcases hm with rfl | rfl | rfl | rfl | rfl | rfl | rfl
    all_goals
      simp -implicitDefEqProofs only [W3, ↓D3, ↓DA, ↓ref_bytes, he, leafN, finish_cell1, finish_cell2, finCell_some, Cond.dAV, rowN_nil, Go.Proofs.Tryz.f114, c1, c2, c3, hd, Int.reduceToNat, Int.reduceBEq, look_nil, evCall_io1, evCall_io2, evCall_io3, evCall_io4, finJ_1, finJ_2, finJ_3, finJ_4, finJ_int, finJ_bool, finJ_str, finJ_nils, finJ_agg, finJ_own, finJ_sl, finJ_tup, look_cons, reduceCtorEq, evCall_mutOwn, evCall_mutAgg, evGive, giveRows, ioBoxes, mutArgs, roArgs, handArg, mutSlots, isPtrB, pairs, pairss, back_nil, back_cons, backO, backE, setBoxes, importB, mode_mut, mode_give, mode_io, mode_ro, List.zip_cons_cons, List.zip_nil_left, List.zip_nil_right, ite_self, ite_true, ite_false, finish_give, finish_mut1, finish_io0, finish_io2, finish_io3, finish_ioc, finI, finC, finW_ptr, SH, noref, isRef, isPtr, noPtr, isBad, AV.isUndef, id_eq, Int.reduceLE, Int.reduceLT, AV.cells, AV.isCell, Value.cells, Nat.reduceAdd, Nat.reduceEqDiff, Nat.reduceLT, Nat.reduceLeDiff, Nat.reduceMul, Nat.reduceSub, reduceIte]
      try trace_state
end Go.Proofs.YtaojmienjikfbaaGreatDoor.Flat
