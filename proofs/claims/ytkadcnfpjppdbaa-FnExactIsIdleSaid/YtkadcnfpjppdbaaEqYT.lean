/-
A diagram built from a table: the program's.
-/
import Derived.Test.YtkadcnfpjppdbaaEqFT
import Derived.Test.YtkadcnfpjppdbaaEqL
import Derived.Test.YtkadcnfpjppdbaaEqCC
import Derived.Test.YtkadcnfpjppdbaaEqYM
import Derived.Test.YtkadcnfpjppdbaaEqS
set_option linter.unusedVariables false
set_option linter.unusedSimpArgs false
set_option maxRecDepth 10000
namespace Go.Proofs.Ytkadcnfpjppdbaa.Flat
theorem or_small : ∀ a < 6, ∀ g < 2 ^ a, bits .or .i64 ((g : Nat) : Int) ((2 ^ a : Nat) : Int) = ((g + 2 ^ a : Nat) : Int) := by decide
theorem lend_encR {bx : Nat → Option (List AV)} {k id : Nat} {s : List Choice} : lend bx (k + 1) (encR id s) = .sl true (s.map (Choice.enc true)) := by
  unfold encR
  split
  · rename_i h
    subst h
    rfl
  · simp -implicitDefEqProofs only [lend, AV.mapO, shuts_Choice]
theorem len_encR2 {bx : Nat → Option (List AV)} {id : Nat} {s : List Choice} : lend bx 4 (encR id s) = .sl true (s.map (Choice.enc true)) := lend_encR
set_option maxHeartbeats 2000000 in
theorem r_impl_built {fl : Bool} (table : List Bool) (n : Nat) (hn : n ≤ 6) (ht : table.length = 2 ^ n) (root : Int) :
    ∀ (m a : Nat) (ha : a + m = n) (k : Nat) (hk : 281474976710656 + 10 + m ≤ k) (g : Nat) (hg : g < 2 ^ a) (ns : List Choice) (hns : ns.length + 2 ^ m ≤ 1000),
    run E noExt k 74 [.ptr 0 0, .int .i64 (a : Nat), .int .i64 (g : Nat), .sl fl (table.map AV.bool)] [[.int .i64 (n : Nat), encR 0 ns, .int .i64 root]] =
      some (.int .i64 (bld table m a g ns).1, [[.int .i64 (n : Nat), encR 0 (bld table m a g ns).2, .int .i64 root]])
  | 0, a, ha, k, hk, g, hg, ns, hns => by
    obtain rfl : a = n := by omega
    have hgl : g < table.length := by rw [ht]; simpa using hg
    have hx : table[g]? = some (table.getD g false) := by rw [List.getD_eq_getElem?_getD, List.getElem?_eq_getElem hgl]; rfl
    have hlt : ((g : Nat) : Int) < ((table.length : Nat) : Int) := by omega
    obtain ⟨k, rfl⟩ : ∃ j, k = j + 1 := ⟨k - 1, by omega⟩
    rw [run_succ rfl rfl, body_eq (nt := 72) (fn := Go.Proofs.Try.f74) (by kernel_rfl) rfl rfl rfl rfl rfl rfl rfl rfl]
    simp -implicitDefEqProofs only [bld]
    generalize table.getD g false = v at hx
    cases v
    all_goals
      simp -implicitDefEqProofs only [QS, QN, QG, QO, ZRS, ↓ZDS, ZRG, ↓ZDG, ZRO, ↓ZDO, Go.Proofs.Try.f74, hx, hlt, rows_encR, boxes_encR, len_rowsN, dedup_rowsN, nodup_rowsN, all_rowsN, any_encR, mapO_encR, look_nil, finJ_1, finJ_2, finJ_3, finJ_4, finJ_int, finJ_bool, finJ_str, finJ_nils, finJ_agg, finJ_own, finJ_sl, finJ_tup, look_cons, reduceCtorEq, evCall_mutOwn, evCall_mutAgg, evGive, giveRows, ioBoxes, mutArgs, roArgs, handArg, mutSlots, isPtrB, pairs, pairss, back_nil, back_cons, backO, backE, setBoxes, importB, mode_mut, mode_give, mode_io, mode_ro, List.zip_cons_cons, List.zip_nil_left, List.zip_nil_right, ite_self, ite_true, ite_false, finish_give, finish_mut1, finish_io0, finish_io2, finish_io3, finish_ioc, finI, finC, finW_ptr, ifEv_bool, if_false, if_true, SO, SH, evAppend, rowOf, noref, isRef, isPtr, noPtr, isBad, AV.isUndef, SN, evCutRow, Int.reduceToNat, id_eq, Int.reduceBEq, Int.reduceLE, Int.reduceLT, SS, one_ne2, num_ne2, TIS, MDS, AV.cells, AV.isCell, Value.cells, Nat.reduceAdd, Nat.reduceEqDiff, Nat.reduceLT, Nat.reduceLeDiff, Nat.reduceMul, Nat.reduceSub, reduceIte]
  | m + 1, a, ha, k, hk, g, hg, ns, hns => by
    have hpm : 0 < 2 ^ m := Nat.pow_pos (by decide)
    have hps : 2 ^ (m + 1) = 2 * 2 ^ m := by rw [Nat.pow_succ]; omega
    have hpa : 2 ^ (a + 1) = 2 * 2 ^ a := by rw [Nat.pow_succ]; omega
    have hl1 := bld_len table m (a + 1) g ns
    have hl2 := bld_len table m (a + 1) (g + 2 ^ a) (bld table m (a + 1) g ns).2
    have c1 := r_impl_built (fl := fl) table n hn ht root m (a + 1) (by omega) (k - 1) (by omega) g (by omega) ns (by omega)
    have c2 := r_impl_built (fl := fl) table n hn ht root m (a + 1) (by omega) (k - 1) (by omega) (g + 2 ^ a) (by omega) (bld table m (a + 1) g ns).2 (by omega)
    have hsl : ∀ t, evBin2 E.P .shl t (.int .i64 1) (.int .i64 ((a : Nat) : Int)) = some (.int .i64 ((2 ^ a : Nat) : Int)) := fun t => by
      have h1 : (((a : Nat) : Int) < 0) = False := eq_false (by omega)
      simp -implicitDefEqProofs only [evBin2, evBin, evShift, h1, if_false, shl_small a (by omega)]
    have hor : ∀ t, evBin2 E.P .or t (.int .i64 ((g : Nat) : Int)) (.int .i64 ((2 ^ a : Nat) : Int)) = some (.int .i64 ((g + 2 ^ a : Nat) : Int)) := fun t => by
      simp -implicitDefEqProofs only [evBin2, evBin, evInt, or_small a (by omega) g hg, if_true]
    have c4 := fun (s : List Choice) hs x => r_slices_Index_Choice (fl := true) (gl := true) (k - 1) (by omega) s hs x
    obtain ⟨k, rfl⟩ : ∃ j, k = j + 1 := ⟨k - 1, by omega⟩
    rw [run_succ rfl rfl, body_eq (nt := 72) (fn := Go.Proofs.Try.f74) (by kernel_rfl) rfl rfl rfl rfl rfl rfl rfl rfl]
    simp -implicitDefEqProofs only [Nat.add_sub_cancel, enc_Choice] at c1 c2 c4
    simp -implicitDefEqProofs only [bld]
    generalize bld table m (a + 1) g ns = p1 at *
    obtain ⟨lo, ns1⟩ := p1
    simp only at *
    generalize bld table m (a + 1) (g + 2 ^ a) ns1 = p2 at *
    obtain ⟨hi, ns2⟩ := p2
    simp only at *
    have hne : ((((a : Nat) : Int)) == ((n : Nat) : Int)) = false := by simp; omega
    have hw1 : IntKind.i64.wrap ((a : Int) + 1) = ((a + 1 : Nat) : Int) := by rw [IntWalk.i64_in _ (by omega)]; omega
    generalize 2 ^ a = pa at *
    have hs : ns2.length ≤ 140737488355328 := by omega
    have c5 := c4 ns2 hs ⟨(a : Nat), lo, hi⟩
    clear c4
    have hm1 : (ns2.length + 1) * 24 ≤ 140737488355328 := by omega
    have hm2 : ns2.length + 1 ≤ 9223372036854775807 := by omega
    have hpl : plains [(AV.agg [.int .i64 (a : Nat), .int .i64 lo, .int .i64 hi])] = true := rfl
    have hw9 : IntKind.i64.wrap (((ns2.length + 1 : Nat) : Int) - 1) = ((ns2.length : Nat) : Int) := by rw [IntWalk.i64_in _ (by omega)]; omega
    have hw10 : IntKind.i64.wrap (((1 : Nat) : Int) - 1) = 0 := by decide
    have g1 := fun nid dst st => give_build (b := 0) (nid := nid) (dst := dst) (st := st) (id := 0) rfl rfl rfl rfl rfl rfl rfl rfl rfl (hΦ := c1)
    have g2 := fun id nid dst st => give_build (b := 0) (nid := nid) (dst := dst) (st := st) (id := id) rfl rfl rfl rfl rfl rfl rfl rfl rfl (hΦ := c2)
    have g2 := g2 144
    unfold bldJoin
    simp only at c5
    generalize indexBy (fun c => decide ((⟨(a : Nat), lo, hi⟩ : Choice) = c)) 0 ns2 = ix at *
    cases hbb : (lo == hi) with
    | true =>
      simp -implicitDefEqProofs only [QS, QN, QG, QO, ZRS, ↓ZDS, ZRG, ↓ZDG, ZRO, ↓ZDO, Go.Proofs.Try.f74, hbb, hne, hw1, hsl, hor, g1, g2, back_rowsN, rows_encR, boxes_encR, len_rowsN, dedup_rowsN, nodup_rowsN, all_rowsN, any_encR, mapO_encR, look_nil, finJ_1, finJ_2, finJ_3, finJ_4, finJ_int, finJ_bool, finJ_str, finJ_nils, finJ_agg, finJ_own, finJ_sl, finJ_tup, look_cons, reduceCtorEq, evCall_mutOwn, evCall_mutAgg, evGive, giveRows, ioBoxes, mutArgs, roArgs, handArg, mutSlots, isPtrB, pairs, pairss, back_nil, back_cons, backO, backE, setBoxes, importB, mode_mut, mode_give, mode_io, mode_ro, List.zip_cons_cons, List.zip_nil_left, List.zip_nil_right, ite_self, ite_true, ite_false, finish_give, finish_mut1, finish_io0, finish_io2, finish_io3, finish_ioc, finI, finC, finW_ptr, ifEv_bool, if_false, if_true, SO, SH, evAppend, rowOf, noref, isRef, isPtr, noPtr, isBad, AV.isUndef, SN, evCutRow, Int.reduceToNat, id_eq, Int.reduceBEq, Int.reduceLE, Int.reduceLT, SS, one_ne2, num_ne2, TIS, MDS, AV.cells, AV.isCell, Value.cells, Nat.reduceAdd, Nat.reduceEqDiff, Nat.reduceLT, Nat.reduceLeDiff, Nat.reduceMul, Nat.reduceSub, reduceIte]
    | false =>
      rcases Classical.em (0 ≤ ix) with h | h
      · simp -implicitDefEqProofs only [QS, QN, QG, QO, ZRS, ↓ZDS, ZRG, ↓ZDG, ZRO, ↓ZDO, Go.Proofs.Try.f74, hbb, h, c5, hne, hw1, hsl, hor, g1, g2, len_encR2, plan_74_10, back_rowsN, rows_encR, boxes_encR, len_rowsN, dedup_rowsN, nodup_rowsN, all_rowsN, any_encR, mapO_encR, look_nil, finJ_1, finJ_2, finJ_3, finJ_4, finJ_int, finJ_bool, finJ_str, finJ_nils, finJ_agg, finJ_own, finJ_sl, finJ_tup, look_cons, reduceCtorEq, evCall_mutOwn, evCall_mutAgg, evGive, giveRows, ioBoxes, mutArgs, roArgs, handArg, mutSlots, isPtrB, pairs, pairss, back_nil, back_cons, backO, backE, setBoxes, importB, mode_mut, mode_give, mode_io, mode_ro, List.zip_cons_cons, List.zip_nil_left, List.zip_nil_right, ite_self, ite_true, ite_false, finish_give, finish_mut1, finish_io0, finish_io2, finish_io3, finish_ioc, finI, finC, finW_ptr, ifEv_bool, if_false, if_true, SO, SH, evAppend, rowOf, noref, isRef, isPtr, noPtr, isBad, AV.isUndef, SN, evCutRow, Int.reduceToNat, id_eq, Int.reduceBEq, Int.reduceLE, Int.reduceLT, SS, one_ne2, num_ne2, TIS, MDS, AV.cells, AV.isCell, Value.cells, Nat.reduceAdd, Nat.reduceEqDiff, Nat.reduceLT, Nat.reduceLeDiff, Nat.reduceMul, Nat.reduceSub, reduceIte]
      · rcases Classical.em (ns2 = []) with h2 | h2
        · subst h2
          simp -implicitDefEqProofs only [List.map_nil] at c5
          simp -implicitDefEqProofs only [QS, QN, QG, QO, ZRS, ↓ZDS, ZRG, ↓ZDG, ZRO, ↓ZDO, Go.Proofs.Try.f74, hbb, h, c5, hne, hw1, hsl, hor, g1, g2, encR_nil, rowsL_nil, encR_one, enc_Choice, hw10, hpl, len_encR2, plan_74_10, plan_74_13, back_rowsN, rows_encR, boxes_encR, len_rowsN, dedup_rowsN, nodup_rowsN, all_rowsN, any_encR, mapO_encR, look_nil, finJ_1, finJ_2, finJ_3, finJ_4, finJ_int, finJ_bool, finJ_str, finJ_nils, finJ_agg, finJ_own, finJ_sl, finJ_tup, look_cons, reduceCtorEq, evCall_mutOwn, evCall_mutAgg, evGive, giveRows, ioBoxes, mutArgs, roArgs, handArg, mutSlots, isPtrB, pairs, pairss, back_nil, back_cons, backO, backE, setBoxes, importB, mode_mut, mode_give, mode_io, mode_ro, List.zip_cons_cons, List.zip_nil_left, List.zip_nil_right, ite_self, ite_true, ite_false, finish_give, finish_mut1, finish_io0, finish_io2, finish_io3, finish_ioc, finI, finC, finW_ptr, ifEv_bool, if_false, if_true, SO, SH, evAppend, rowOf, noref, isRef, isPtr, noPtr, isBad, AV.isUndef, SN, evCutRow, Int.reduceToNat, id_eq, Int.reduceBEq, Int.reduceLE, Int.reduceLT, SS, one_ne2, num_ne2, TIS, MDS, AV.cells, AV.isCell, Value.cells, Nat.reduceAdd, Nat.reduceEqDiff, Nat.reduceLT, Nat.reduceLeDiff, Nat.reduceMul, Nat.reduceSub, reduceIte]
        · have e2 := fun id => encR_ne (id := id) h2
          have e3 := encR_ne (id := 0) (append_ne (s := ns2) (c := ⟨(a : Nat), lo, hi⟩))
          rw [List.map_append] at e3
          have hl : (ns2.map (Choice.enc true) ++ [AV.agg [.int .i64 (a : Nat), .int .i64 lo, .int .i64 hi]]).length = ns2.length + 1 := by simp
          simp -implicitDefEqProofs only [QS, QN, QG, QO, ZRS, ↓ZDS, ZRG, ↓ZDG, ZRO, ↓ZDO, Go.Proofs.Try.f74, hbb, h, c5, hne, hw1, hsl, hor, g1, g2, e2, e3, hl, enc_Choice, hs, hm1, hm2, hw9, hpl, shuts_Choice, plan_74_10, plan_74_13, back_rowsN, rows_encR, boxes_encR, len_rowsN, dedup_rowsN, nodup_rowsN, all_rowsN, any_encR, mapO_encR, look_nil, finJ_1, finJ_2, finJ_3, finJ_4, finJ_int, finJ_bool, finJ_str, finJ_nils, finJ_agg, finJ_own, finJ_sl, finJ_tup, look_cons, reduceCtorEq, evCall_mutOwn, evCall_mutAgg, evGive, giveRows, ioBoxes, mutArgs, roArgs, handArg, mutSlots, isPtrB, pairs, pairss, back_nil, back_cons, backO, backE, setBoxes, importB, mode_mut, mode_give, mode_io, mode_ro, List.zip_cons_cons, List.zip_nil_left, List.zip_nil_right, ite_self, ite_true, ite_false, finish_give, finish_mut1, finish_io0, finish_io2, finish_io3, finish_ioc, finI, finC, finW_ptr, ifEv_bool, if_false, if_true, SO, SH, evAppend, rowOf, noref, isRef, isPtr, noPtr, isBad, AV.isUndef, SN, evCutRow, Int.reduceToNat, id_eq, Int.reduceBEq, Int.reduceLE, Int.reduceLT, SS, one_ne2, num_ne2, TIS, MDS, AV.cells, AV.isCell, Value.cells, Nat.reduceAdd, Nat.reduceEqDiff, Nat.reduceLT, Nat.reduceLeDiff, Nat.reduceMul, Nat.reduceSub, reduceIte]
end Go.Proofs.Ytkadcnfpjppdbaa.Flat

namespace Go.Proofs.Ytkadcnfpjppdbaa.Flat
noncomputable def fromT (atoms : Int) (table : List Bool) : Diagram := ⟨atoms, (bld table atoms.toNat 0 0 []).2, (bld table atoms.toNat 0 0 []).1⟩
noncomputable def fromOk (atoms : Int) (table : List Bool) : Bool := inR atoms 0 6 && decide (table.length = 2 ^ atoms.toNat)
noncomputable def fromTable (atoms : Int) (table : List Bool) : Diagram := if fromOk atoms table = true then fromT atoms table else ⟨0, [], 0⟩
noncomputable def Diagram.encN (d : Diagram) : AV := .agg [.int .i64 d.atoms, encR 0 d.nodes, .int .i64 d.root]
theorem r_impl_FromTable {fl : Bool} (k : Nat) (hk : 281474976710656 + 30 ≤ k) (atoms : Int) (table : List Bool) (hl : table.length ≤ 1099511627776) :
    run E noExt k 57 [.int .i64 atoms, .sl fl (table.map AV.bool)] [] = some (.tup [(fromTable atoms table).encN, .bool (fromOk atoms table)], []) := by
  have c1 := r_impl_InRange (k - 1) (by omega) atoms 0 6
  have c3 := fun n hn ht => r_impl_built (fl := fl) table n hn ht 0 n 0 (by omega) (k - 1) (by omega) 0 (by simp) [] (by have : 2 ^ n ≤ 2 ^ 6 := Nat.pow_le_pow_right (by decide) hn; simp -implicitDefEqProofs only [List.length_nil]; omega)
  unfold fromTable fromOk
  obtain ⟨k, rfl⟩ : ∃ j, k = j + 1 := ⟨k - 1, by omega⟩
  rw [run_succ rfl rfl, body_eq (nt := 24) (fn := Go.Proofs.Try.f57) (by kernel_rfl) rfl rfl rfl rfl rfl rfl rfl rfl]
  simp -implicitDefEqProofs only [Nat.add_sub_cancel] at c1 c3
  cases hd : inR atoms 0 6 with
  | false =>
    rw [hd] at c1
    simp -implicitDefEqProofs only [QS, QN, QG, QO, ZRS, ↓ZDS, ZRG, ↓ZDG, ZRO, ↓ZDO, Go.Proofs.Try.f57, c1, Diagram.encN, encR_nil, ifEv_bool, gate_bool, if_false, SO, SH, evAppend, rowOf, noref, isRef, isPtr, noPtr, isBad, AV.isUndef, SN, evCutRow, Int.reduceToNat, id_eq, Int.reduceBEq, Int.reduceLE, Int.reduceLT, SS, one_ne2, num_ne2, TIS, MDS, AV.cells, AV.isCell, Value.cells, Nat.reduceAdd, Nat.reduceEqDiff, Nat.reduceLT, Nat.reduceLeDiff, Nat.reduceMul, Nat.reduceSub, reduceIte]
  | true =>
    rw [hd] at c1
    have hr := hd
    simp -implicitDefEqProofs only [inR, Bool.and_eq_true, decide_eq_true_eq] at hr
    obtain ⟨n, hn⟩ : ∃ n : Nat, atoms = (n : Int) := ⟨atoms.toNat, by omega⟩
    subst hn
    have hn6 : n ≤ 6 := by omega
    have hsl : ∀ t, evBin2 E.P .shl t (.int .i64 1) (.int .i64 ((n : Nat) : Int)) = some (.int .i64 ((2 ^ n : Nat) : Int)) := fun t => by
      have h1 : (((n : Nat) : Int) < 0) = False := eq_false (by omega)
      simp -implicitDefEqProofs only [evBin2, evBin, evShift, h1, if_false, shl_small n (by omega)]
    have c5 := c3 n hn6
    clear c3
    simp -implicitDefEqProofs only [Int.toNat_natCast]
    rcases Classical.em (table.length = 2 ^ n) with h | h
    · have hd2 : (((table.length : Nat) : Int) == ((2 ^ n : Nat) : Int)) = true := by simp [h]
      have c6 := c5 h
      have hz0 : ((0 : Nat) : Int) = 0 := rfl
      simp -implicitDefEqProofs only [hz0] at c6
      have g1 := fun nid dst st => give_build (b := 128) (nid := nid) (dst := dst) (st := st) (id := 0) rfl rfl rfl rfl rfl rfl rfl rfl rfl (hΦ := c6)
      have hdt : decide (table.length = 2 ^ n) = true := decide_eq_true h
      unfold fromT
      simp -implicitDefEqProofs only [Int.toNat_natCast]
      generalize bld table n 0 0 [] = p at *
      simp -implicitDefEqProofs only [hdt, Bool.true_and, if_true]
      simp -implicitDefEqProofs only [QS, QN, QG, QO, ZRS, ↓ZDS, ZRG, ↓ZDG, ZRO, ↓ZDO, Go.Proofs.Try.f57, c1, hsl, hd2, bne, encR_nil, g1, Diagram.encN, ifEv_bool, gate_bool, if_false, if_true, back_rowsN, rows_encR, boxes_encR, ↓isCell_encR, len_rowsN, dedup_rowsN, nodup_rowsN, all_rowsN, any_encR, mapO_encR, ref_encR, scal_encR, small_rowsN, lend_encR4, imp_encR, rowsN_nil, look_nil, finJ_1, finJ_2, finJ_3, finJ_4, finJ_int, finJ_bool, finJ_str, finJ_nils, finJ_agg, finJ_own, finJ_sl, finJ_tup, look_cons, reduceCtorEq, evCall_mutOwn, evCall_mutAgg, evGive, giveRows, ioBoxes, mutArgs, roArgs, handArg, mutSlots, isPtrB, pairs, pairss, back_nil, back_cons, backO, backE, setBoxes, importB, mode_mut, mode_give, mode_io, mode_ro, List.zip_cons_cons, List.zip_nil_left, List.zip_nil_right, ite_self, ite_true, ite_false, finish_give, finish_mut1, finish_io0, finish_io2, finish_io3, finish_ioc, finI, finC, finW_ptr, SO, SH, evAppend, rowOf, noref, isRef, isPtr, noPtr, isBad, AV.isUndef, SN, evCutRow, Int.reduceToNat, id_eq, Int.reduceBEq, Int.reduceLE, Int.reduceLT, SS, one_ne2, num_ne2, TIS, MDS, AV.cells, AV.isCell, Value.cells, Nat.reduceAdd, Nat.reduceEqDiff, Nat.reduceLT, Nat.reduceLeDiff, Nat.reduceMul, Nat.reduceSub, reduceIte]
    · have hd2 : (((table.length : Nat) : Int) == ((2 ^ n : Nat) : Int)) = false := by rw [beq_eq_false_iff_ne]; intro e; exact h (by omega)
      have hdt : decide (table.length = 2 ^ n) = false := decide_eq_false h
      simp -implicitDefEqProofs only [hdt, Bool.true_and]
      simp -implicitDefEqProofs only [QS, QN, QG, QO, ZRS, ↓ZDS, ZRG, ↓ZDG, ZRO, ↓ZDO, Go.Proofs.Try.f57, c1, hsl, hd2, bne, Diagram.encN, encR_nil, ifEv_bool, gate_bool, if_false, if_true, SO, SH, evAppend, rowOf, noref, isRef, isPtr, noPtr, isBad, AV.isUndef, SN, evCutRow, Int.reduceToNat, id_eq, Int.reduceBEq, Int.reduceLE, Int.reduceLT, SS, one_ne2, num_ne2, TIS, MDS, AV.cells, AV.isCell, Value.cells, Nat.reduceAdd, Nat.reduceEqDiff, Nat.reduceLT, Nat.reduceLeDiff, Nat.reduceMul, Nat.reduceSub, reduceIte]
end Go.Proofs.Ytkadcnfpjppdbaa.Flat
namespace Go.Proofs.Ytkadcnfpjppdbaa.Flat
noncomputable def polB (p : Policy) (a o : Int) (s : List Cond) (v : List Bool) : Bool := polBy (ruleBy a o s v) p.rules
noncomputable def compTab (p : Policy) (a o : Int) (s : List Cond) (i : Nat) : List Bool := (List.range i).map fun j => polB p a o s (valsOf s.length j)
noncomputable def compOk (p : Policy) (a o : Int) : Bool := isPolicy p && decide ((atomsOf p a o).length ≤ 6)
noncomputable def compD (p : Policy) (a o : Int) : Diagram := fromTable ((atomsOf p a o).length : Nat) (compTab p a o (atomsOf p a o) (2 ^ (atomsOf p a o).length))
/-- What CompileFor hands back. -/
noncomputable def compAV (p : Policy) (a o : Int) : AV :=
  if compOk p a o = true then .agg [.own 0 false 42 4 ((atomsOf p a o).map (Cond.enc true)), .int .i64 (compD p a o).atoms, encR 1 (compD p a o).nodes, .int .i64 (compD p a o).root, .int .i64 p.version]
  else .agg [.nils, .int .i64 0, .nils, .int .i64 0, .int .i64 0]
theorem compTab_succ (p : Policy) (a o : Int) (s : List Cond) (i : Nat) : compTab p a o s (i + 1) = compTab p a o s i ++ [polB p a o s (valsOf s.length i)] := by simp [compTab, List.range_succ]
theorem compTab_len (p : Policy) (a o : Int) (s : List Cond) (i : Nat) : (compTab p a o s i).length = i := by simp [compTab]
set_option maxHeartbeats 4000000 in
theorem r_impl_CompileFor (k : Nat) (hk : 884940186000000 + 60 ≤ k) (p : Policy) (hp0 : p.w ≤ 268435456) (a o : Int) :
    run E noExt k 42 [p.enc true, .int .i64 a, .int .i64 o] [] = some (.tup [compAV p a o, .bool (compOk p a o)], []) := by
  have hp : p.w ≤ 1099511627776 := by omega
  have hal := atomsOf_len p a o
  have hav := atomsOf_leaves p a o
  have hsc := scals_leaves hav
  have c1 := r_impl_IsPolicy (fl := true) (k - 1) (by omega) p hp
  have c2 := r_impl_AtomsFor (fl := true) (k - 1) p (by omega) hp a o
  have c3 := r_impl_valuesOf (k - 1) (by omega) (atomsOf p a o).length
  have c4 := fun v => r_impl_PolicyBy (fl := true) (f2 := true) (f3 := true) (k - 1) (by omega) p a o (atomsOf p a o) v hp (by rw [wl_leaves hav]; omega)
  have c5 := fun t ht => r_impl_FromTable (fl := true) (k - 1) (by omega) ((atomsOf p a o).length : Nat) t ht
  have e4 : ∀ v, polBy (ruleBy a o (atomsOf p a o) v) p.rules = polB p a o (atomsOf p a o) v := fun _ => rfl
  simp -implicitDefEqProofs only [e4] at c4
  have hCok : compOk p a o = (isPolicy p && decide ((atomsOf p a o).length ≤ 6)) := rfl
  have hCD : compD p a o = fromTable ((atomsOf p a o).length : Nat) (compTab p a o (atomsOf p a o) (2 ^ (atomsOf p a o).length)) := rfl
  have hT := compTab_succ p a o (atomsOf p a o)
  have hTl := compTab_len p a o (atomsOf p a o)
  have hT0 : compTab p a o (atomsOf p a o) 0 = [] := rfl
  unfold compAV
  rw [hCok, hCD]
  clear hCok hCD e4
  obtain ⟨k, rfl⟩ : ∃ j, k = j + 1 := ⟨k - 1, by omega⟩
  rw [run_succ rfl rfl, body_eq (nt := 57) (fn := Go.Proofs.Try.f42) (by kernel_rfl) rfl rfl rfl rfl rfl rfl rfl rfl]
  simp -implicitDefEqProofs only [Nat.add_sub_cancel, enc_Policy] at c1 c2 c3 c4 c5
  cases hP : isPolicy p with
  | false =>
    rw [hP] at c1
    simp -implicitDefEqProofs only [QS, QN, QG, QO, ZRS, ↓ZDS, ZRG, ↓ZDG, ZRO, ↓ZDO, Go.Proofs.Try.f42, enc_Policy, c1, ifEv_bool, if_false, if_true, SO, SH, evAppend, rowOf, noref, isRef, isPtr, noPtr, isBad, AV.isUndef, SN, evCutRow, Int.reduceToNat, id_eq, Int.reduceBEq, Int.reduceLE, Int.reduceLT, SS, one_ne2, num_ne2, TIS, MDS, AV.cells, AV.isCell, Value.cells, Nat.reduceAdd, Nat.reduceEqDiff, Nat.reduceLT, Nat.reduceLeDiff, Nat.reduceMul, Nat.reduceSub, reduceIte]
  | true =>
    rw [hP] at c1
    simp -implicitDefEqProofs only [Bool.true_and]
    generalize atomsOf p a o = at_ at *
    by_cases hn : at_.length ≤ 6
    · have hgt : decide (((at_.length : Nat) : Int) > 6) = false := decide_eq_false (by omega)
      have hle : decide (at_.length ≤ 6) = true := decide_eq_true hn
      have hsl : ∀ t, evBin2 E.P .shl t (.int .i64 1) (.int .i64 ((at_.length : Nat) : Int)) = some (.int .i64 ((2 ^ at_.length : Nat) : Int)) := fun t => by
        have h1 : (((at_.length : Nat) : Int) < 0) = False := eq_false (by omega)
        simp -implicitDefEqProofs only [evBin2, evBin, evShift, h1, if_false, shl_small at_.length (by omega)]
      have hN : 2 ^ at_.length ≤ 64 := Nat.le_trans (Nat.pow_le_pow_right (by decide) hn) (by decide)
      have c3 := fun i hi => c3 i hn hi
      have c6 := c5 (compTab p a o at_ (2 ^ at_.length)) (by rw [hTl]; omega)
      clear c5
      generalize hNN : (2 : Nat) ^ at_.length = N at *
      have hok : fromOk ((at_.length : Nat) : Int) (compTab p a o at_ N) = true := by
        unfold fromOk
        rw [hTl, Int.toNat_natCast, hNN]
        simp [inR]
        omega
      rw [hok] at c6
      simp -implicitDefEqProofs only [hle, if_true]
      generalize fromTable ((at_.length : Nat) : Int) (compTab p a o at_ N) = d at *
      simp -implicitDefEqProofs only [QS, QN, QO, ZRS, ↓ZDS, ZRO, ↓ZDO, Go.Proofs.Try.f42, enc_Policy, c1, c2, hsc, hgt, hsl, ifEv_bool, if_false, if_true, SO, SH, evAppend, rowOf, noref, isRef, isPtr, noPtr, isBad, AV.isUndef, dedup, nodupB, idx, AV.rows, AV.rowss, AV.mapO, AV.mapOs, SN, evCutRow, Int.reduceToNat, id_eq, Int.reduceBEq, Int.reduceLE, Int.reduceLT, SS, one_ne2, num_ne2, TIS, MDS, AV.cells, AV.isCell, Value.cells, Nat.reduceAdd, Nat.reduceEqDiff, Nat.reduceLT, Nat.reduceLeDiff, Nat.reduceMul, Nat.reduceSub, reduceIte]
      rw [ev_loop]
      refine Eq.trans (loop_list (Q := fun (_ : Unit) z => thenEnd E.P [] _ 0 (thenEv E _ _ _ _ _ (outOf 0 z)) = some (.tup [.agg [.own 0 false 42 4 (at_.map (Cond.enc true)), .int .i64 d.atoms, encR 1 d.nodes, .int .i64 d.root, .int .i64 p.version], .bool true], [])) (List.range N) (fun _ _ _ => .inr ()) id
        (fun i _ => { sl := [(1, .int .i64 a), (2, .int .i64 o), (3, .ptr 0 0), (6, .ptr 1 0), (8, .own 0 false 42 4 (at_.map (Cond.enc true))), (9, .own 1 false 4 1 ((compTab p a o at_ i).map AV.bool)), (28, .int .i64 (N : Nat)), (29, .int .i64 (i : Nat))], bx := [(0, [.int .i64 p.version, .sl true (p.rules.map (Rule.enc true))]), (1, [.nils, .int .i64 0, .nils, .int .i64 0, .int .i64 0])], nx := 4, nt := 57 })
        (fun _ _ => True) () ?_ ?_ (by simp; omega) trivial ?_) ?_
      · intro _ _
        rcases Classical.em (d.nodes = []) with h | h
        · have e0 : d.encN = .agg [.int .i64 d.atoms, .nils, .int .i64 d.root] := by unfold Diagram.encN; rw [h, encR_nil]
          have e1 : encR 1 d.nodes = .nils := by rw [h, encR_nil]
          rw [e0] at c6
          simp -implicitDefEqProofs only [QS, QN, QG, QO, ZRS, ↓ZDS, ZRG, ↓ZDG, ZRO, ↓ZDO, List.length_range, c6, e1, hsc, scals_bools2, rowss_bools, boxess_bools, mapOs_bools, SO, SH, evAppend, rowOf, noref, isRef, isPtr, noPtr, isBad, AV.isUndef, leaf_some, isNormal, ifEv_bool, gate_bool, gateP_bool, gateQ_bool, pick_bool, SN, evCutRow, Int.reduceToNat, id_eq, Int.reduceBEq, Int.reduceLE, Int.reduceLT, SS, one_ne2, num_ne2, TIS, MDS, AV.cells, AV.isCell, Value.cells, Nat.reduceAdd, Nat.reduceEqDiff, Nat.reduceLT, Nat.reduceLeDiff, Nat.reduceMul, Nat.reduceSub, reduceIte]
          repeat' (split <;> (rename_i h; (try simp -implicitDefEqProofs only [Bool.not_eq_true', Bool.not_eq_false', decide_eq_true_eq, decide_eq_false_iff_not] at h); (try simp -implicitDefEqProofs only [QS, QN, QG, QO, ZRS, ↓ZDS, ZRG, ↓ZDG, ZRO, ↓ZDO, *, List.length_range, c6, e1, hsc, scals_bools2, rowss_bools, boxess_bools, mapOs_bools, SO, SH, evAppend, rowOf, noref, isRef, isPtr, noPtr, isBad, AV.isUndef, leaf_some, isNormal, ifEv_bool, gate_bool, gateP_bool, gateQ_bool, pick_bool, SN, evCutRow, Int.reduceToNat, id_eq, Int.reduceBEq, Int.reduceLE, Int.reduceLT, SS, one_ne2, num_ne2, TIS, MDS, AV.cells, AV.isCell, Value.cells, Nat.reduceAdd, Nat.reduceEqDiff, Nat.reduceLT, Nat.reduceLeDiff, Nat.reduceMul, Nat.reduceSub, reduceIte])))
        · have e0 : d.encN = .agg [.int .i64 d.atoms, .own 0 false 99 3 (d.nodes.map (Choice.enc true)), .int .i64 d.root] := by unfold Diagram.encN; rw [encR_ne h]
          have e1 := encR_ne (id := 1) h
          rw [e0] at c6
          simp -implicitDefEqProofs only [QS, QN, QG, QO, ZRS, ↓ZDS, ZRG, ↓ZDG, ZRO, ↓ZDO, List.length_range, c6, e1, hsc, tscals_Choice, scals_bools2, rowss_bools, boxess_bools, mapOs_bools, SO, SH, evAppend, rowOf, noref, isRef, isPtr, noPtr, isBad, AV.isUndef, leaf_some, isNormal, ifEv_bool, gate_bool, gateP_bool, gateQ_bool, pick_bool, SN, evCutRow, Int.reduceToNat, id_eq, Int.reduceBEq, Int.reduceLE, Int.reduceLT, SS, one_ne2, num_ne2, TIS, MDS, AV.cells, AV.isCell, Value.cells, Nat.reduceAdd, Nat.reduceEqDiff, Nat.reduceLT, Nat.reduceLeDiff, Nat.reduceMul, Nat.reduceSub, reduceIte]
          repeat' (split <;> (rename_i h; (try simp -implicitDefEqProofs only [Bool.not_eq_true', Bool.not_eq_false', decide_eq_true_eq, decide_eq_false_iff_not] at h); (try simp -implicitDefEqProofs only [QS, QN, QG, QO, ZRS, ↓ZDS, ZRG, ↓ZDG, ZRO, ↓ZDO, *, List.length_range, c6, e1, hsc, tscals_Choice, scals_bools2, rowss_bools, boxess_bools, mapOs_bools, SO, SH, evAppend, rowOf, noref, isRef, isPtr, noPtr, isBad, AV.isUndef, leaf_some, isNormal, ifEv_bool, gate_bool, gateP_bool, gateQ_bool, pick_bool, SN, evCutRow, Int.reduceToNat, id_eq, Int.reduceBEq, Int.reduceLE, Int.reduceLT, SS, one_ne2, num_ne2, TIS, MDS, AV.cells, AV.isCell, Value.cells, Nat.reduceAdd, Nat.reduceEqDiff, Nat.reduceLT, Nat.reduceLeDiff, Nat.reduceMul, Nat.reduceSub, reduceIte])))
      · intro pre x r' _ hs' _
        obtain ⟨hxe, hpl0⟩ := range_at hs'
        have h5 : ((pre.length : Int) < (N : Int)) = True := eq_true (by omega)
        have hw1 : IntKind.i64.wrap ((pre.length : Int) + 1) = ((pre.length + 1 : Nat) : Int) := by rw [IntWalk.i64_in _ (by omega)]; omega
        clear hs'
        subst hxe
        have c7 := c3 pre.length (by omega)
        have c8 := c4 (valsOf at_.length pre.length)
        have hv := hT pre.length
        have hl := hTl pre.length
        have hm1 : (compTab p a o at_ pre.length).length + 1 ≤ 140737488355328 := by omega
        have hm2 : (compTab p a o at_ pre.length).length + 1 ≤ 9223372036854775807 := by omega
        have hm9 : (compTab p a o at_ pre.length).length ≤ 9223372036854775806 := by omega
        have hm8 : (compTab p a o at_ pre.length).length ≤ 140737488355327 := by omega
        generalize polB p a o at_ (valsOf at_.length pre.length) = v at c8 hv
        have hpl : plains [AV.bool v] = true := rfl
        simp -implicitDefEqProofs only [QS, QN, QG, QO, ZRS, ↓ZDS, ZRG, ↓ZDG, ZRO, ↓ZDO, h5, hw1, c7, c8, hv, hm1, hm2, hm8, hm9, hpl, hsc, Nat.mul_one, List.map_append, scals_bools2, plains_bools2, rowss_bools, boxess_bools, mapOs_bools, plan_42_9, SO, SH, evAppend, rowOf, noref, isRef, isPtr, noPtr, isBad, AV.isUndef, keep_42_7, leaf_some, isNormal, ifEv_bool, gate_bool, gateP_bool, gateQ_bool, pick_bool, SN, evCutRow, Int.reduceToNat, id_eq, Int.reduceBEq, Int.reduceLE, Int.reduceLT, SS, one_ne2, num_ne2, TIS, MDS, AV.cells, AV.isCell, Value.cells, Nat.reduceAdd, Nat.reduceEqDiff, Nat.reduceLT, Nat.reduceLeDiff, Nat.reduceMul, Nat.reduceSub, reduceIte]
        repeat' (split <;> (rename_i h; (try simp -implicitDefEqProofs only [Bool.not_eq_true', Bool.not_eq_false', decide_eq_true_eq, decide_eq_false_iff_not] at h); (try simp -implicitDefEqProofs only [QS, QN, QG, QO, ZRS, ↓ZDS, ZRG, ↓ZDG, ZRO, ↓ZDO, *, h5, hw1, c7, c8, hv, hm1, hm2, hm8, hm9, hpl, hsc, Nat.mul_one, List.map_append, scals_bools2, plains_bools2, rowss_bools, boxess_bools, mapOs_bools, plan_42_9, SO, SH, evAppend, rowOf, noref, isRef, isPtr, noPtr, isBad, AV.isUndef, keep_42_7, leaf_some, isNormal, ifEv_bool, gate_bool, gateP_bool, gateQ_bool, pick_bool, SN, evCutRow, Int.reduceToNat, id_eq, Int.reduceBEq, Int.reduceLE, Int.reduceLT, SS, one_ne2, num_ne2, TIS, MDS, AV.cells, AV.isCell, Value.cells, Nat.reduceAdd, Nat.reduceEqDiff, Nat.reduceLT, Nat.reduceLeDiff, Nat.reduceMul, Nat.reduceSub, reduceIte])))
      · simp -implicitDefEqProofs only [firstRegion]
        rw [keep_42_7]
        simp -implicitDefEqProofs only [QS, QN, QG, QO, ZRS, ↓ZDS, ZRG, ↓ZDG, ZRO, ↓ZDO, hT0, SN, evCutRow, Int.reduceToNat, id_eq, Int.reduceBEq, Int.reduceLE, Int.reduceLT, SO, SH, evAppend, rowOf, noref, isRef, isPtr, noPtr, isBad, AV.isUndef, SS, one_ne2, num_ne2, TIS, MDS, AV.cells, AV.isCell, Value.cells, Nat.reduceAdd, Nat.reduceEqDiff, Nat.reduceLT, Nat.reduceLeDiff, Nat.reduceMul, Nat.reduceSub, reduceIte]
      · rfl
    · have hgt : decide (((at_.length : Nat) : Int) > 6) = true := decide_eq_true (by omega)
      have hle : decide (at_.length ≤ 6) = false := decide_eq_false (by omega)
      simp -implicitDefEqProofs only [QS, QN, QG, QO, ZRS, ↓ZDS, ZRG, ↓ZDG, ZRO, ↓ZDO, Go.Proofs.Try.f42, enc_Policy, c1, c2, hsc, hgt, hle, ifEv_bool, if_false, if_true, SO, SH, evAppend, rowOf, noref, isRef, isPtr, noPtr, isBad, AV.isUndef, SN, evCutRow, Int.reduceToNat, id_eq, Int.reduceBEq, Int.reduceLE, Int.reduceLT, SS, one_ne2, num_ne2, TIS, MDS, AV.cells, AV.isCell, Value.cells, Nat.reduceAdd, Nat.reduceEqDiff, Nat.reduceLT, Nat.reduceLeDiff, Nat.reduceMul, Nat.reduceSub, reduceIte]
theorem compFor_noI {p : Policy} {a o : Int} (h : compOk p a o = false) : compAV p a o = .agg [.nils, .int .i64 0, .nils, .int .i64 0, .int .i64 0] := by
  unfold compAV
  rw [h]
  rfl
theorem compFor_yesI {p : Policy} {a o : Int} (h : compOk p a o = true) : compAV p a o = .agg [.own 0 false 42 4 ((atomsOf p a o).map (Cond.enc true)), .int .i64 (compD p a o).atoms, encR 1 (compD p a o).nodes, .int .i64 (compD p a o).root, .int .i64 p.version] := by
  unfold compAV
  rw [h]
  rfl
end Go.Proofs.Ytkadcnfpjppdbaa.Flat
namespace Go.Proofs.Ytkadcnfpjppdbaa.Flat
/-! ### leaves, gathered in whatever order -/
end Go.Proofs.Ytkadcnfpjppdbaa.Flat
namespace Go.Proofs.Ytkadcnfpjppdbaa.Flat
/-! ### marks, element by element -/
section
variable {α : Type} (M : Int → α → α) (W : α → Nat) (T : α → AV)
variable {M W T}
end
/-! ### conditions -/
end Go.Proofs.Ytkadcnfpjppdbaa.Flat
