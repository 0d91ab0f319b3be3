/-
Marks in rows that a copy has laid: rows within rows, an empty row where none is.
-/
import Derived.Test.YtkolknigffoleaaEqYT
import Derived.Test.YtkolknigffoleaaEqCRT
set_option linter.unusedVariables false
set_option linter.unusedSimpArgs false
set_option maxRecDepth 10000
namespace Go.Proofs.Ytkolknigffoleaa.Flat
theorem evCall_mutSlN {Φ : Phi} {nid n : Nat} {fl : Bool} {m : IntKind} {z : Int} {dst : Option Nat} {st : St} : evCall Φ [.mut, .ro] nid n [.sl fl [], .int m z] [] dst st = evGive Φ nid n [(.mut, .sl fl []), (.ro, .int m z)] dst st := rfl
theorem r_laws_markCondS_nil {fl : Bool} (k : Nat) (hk : 281474976710656 + 1 ≤ k) (z : Int) :
    run E noExt k 24 [.sl fl [], .int .i64 z] [] = some (.int .i64 z, [[.sl fl []]]) := by
  obtain ⟨k, rfl⟩ : ∃ j, k = j + 1 := ⟨k - 1, by omega⟩
  rw [run_succ rfl rfl, body_eq (nt := 41) (fn := Go.Proofs.Try.f24) (by kernel_rfl) rfl rfl rfl rfl rfl rfl rfl rfl]
  simp -implicitDefEqProofs only [W4, ↓D4, ↓DA, ↓DP, ↓DC, Go.Proofs.Try.f24, SH, dedup, nodupB, idx, AV.rows, AV.rowss, AV.mapO, AV.mapOs, Int.reduceToNat, id_eq, Int.reduceBEq, Int.reduceLE, Int.reduceLT, Nat.reduceAdd, Nat.reduceEqDiff, Nat.reduceLT, Nat.reduceLeDiff, Nat.reduceMul, Nat.reduceSub, reduceIte]
  rw [ev_loop]
  refine Eq.trans (loop_list (Q := fun (_ : Unit) x => thenEnd E.P _ _ 0 (thenEv E _ _ _ _ _ (outOf 0 x)) = some (.int .i64 z, [[.sl fl []]])) ([] : List Unit) (fun _ _ _ => .inr ()) id
    (fun i _ => { sl := [(0, .sl fl []), (1, .int .i64 z), (5, .int .i64 (i : Nat))], bx := [], nx := 0, nt := 41 }) (fun _ _ => True) () ?_ ?_ (by simp; omega) trivial ?_) rfl
  · intro _ _
    simp -implicitDefEqProofs only [W3, ↓D3, ↓DA, ↓DP, ↓DC, QX, SH, leaf_some, isNormal, Int.reduceToNat, id_eq, Int.reduceBEq, Int.reduceLE, Int.reduceLT, Nat.reduceAdd, Nat.reduceEqDiff, Nat.reduceLT, Nat.reduceLeDiff, Nat.reduceMul, Nat.reduceSub, reduceIte]
    repeat' (split <;> (rename_i h; (try simp -implicitDefEqProofs only [Bool.not_eq_true', Bool.not_eq_false', decide_eq_true_eq, decide_eq_false_iff_not] at h); (try simp -implicitDefEqProofs only [W3, ↓D3, ↓DA, ↓DP, ↓DC, QX, *, SH, leaf_some, isNormal, Int.reduceToNat, id_eq, Int.reduceBEq, Int.reduceLE, Int.reduceLT, Nat.reduceAdd, Nat.reduceEqDiff, Nat.reduceLT, Nat.reduceLeDiff, Nat.reduceMul, Nat.reduceSub, reduceIte])))
    rw [finish_mut1 rfl]
    simp -implicitDefEqProofs only [W3, ↓D3, ↓DA, ↓DP, ↓DC, finC, Int.reduceToNat, id_eq, Int.reduceBEq, Int.reduceLE, Int.reduceLT, SH, Nat.reduceAdd, Nat.reduceEqDiff, Nat.reduceLT, Nat.reduceLeDiff, Nat.reduceMul, Nat.reduceSub, reduceIte]
  · intro pre c r _ hs' _
    simp at hs'
  · simp -implicitDefEqProofs only [firstRegion]
    rw [keep_24_2]
    simp -implicitDefEqProofs only [W3, ↓D3, ↓DA, ↓DP, ↓DC, Int.reduceToNat, id_eq, Int.reduceBEq, Int.reduceLE, Int.reduceLT, SH, Nat.reduceAdd, Nat.reduceEqDiff, Nat.reduceLT, Nat.reduceLeDiff, Nat.reduceMul, Nat.reduceSub, reduceIte]
theorem tencN_mk (z : Int) (c : Cond) : (condMk z c).tencN = .agg [.int .i64 z, .int .i64 (z + 1), .int .i64 (z + 2), cellN ((mksG condMk condW (z + 3) c.args).map Cond.tencN)] := by rw [condMk_eq, tencN_eq]
theorem mks_nil {α : Type} {M : Int → α → α} {W : α → Nat} {z : Int} {s : List α} {T : α → AV} (h : s.map T = []) : (mksG M W z s).map T = [] ∧ sumG W s = 0 := by
  cases s with
  | nil => exact ⟨rfl, rfl⟩
  | cons c r => simp at h
theorem mks_ne {α : Type} {M : Int → α → α} {W : α → Nat} {z : Int} {s : List α} {T : α → AV} (h : s.map T ≠ []) : (mksG M W z s).map T ≠ [] := by
  cases s with
  | nil => simp at h
  | cons c r => simp [mksG]
theorem r_laws_markCondSN0 (k : Nat) (s : List Cond) (hk : 281474976710656 + 4 * wl Cond.w s + 2 ≤ k) (z : Int) (hz : 0 ≤ z ∧ z + (sumG condW s : Nat) ≤ 4398046511104)
    (c1 : ∀ c ∈ s, ∀ y : Int, 0 ≤ y ∧ y + (sumG condW c.args : Nat) ≤ z + (sumG condW s : Nat) → run E noExt (k - 1) 24 [.own 0 false 41 4 (c.args.map Cond.tencN), .int .i64 y] [] = some (.int .i64 (y + ((sumG condW c.args : Nat) : Int)), [[.own 0 false 41 4 ((mksG condMk condW y c.args).map Cond.tencN)]])) :
    run E noExt k 24 [.own 0 false 41 4 (s.map Cond.tencN), .int .i64 z] [] = some (.int .i64 (z + ((sumG condW s : Nat) : Int)), [[.own 0 false 41 4 ((mksG condMk condW z s).map Cond.tencN)]]) := by
  have hsl : s.length ≤ sumG condW s := by have := wl_length Cond.w s; rw [sum_cond]; omega
  have hs : s.length ≤ 140737488355328 := by omega
  have c0 := r_laws_markCondS_nil (fl := true) (k - 1) (by omega)
  obtain ⟨k, rfl⟩ : ∃ j, k = j + 1 := ⟨k - 1, by omega⟩
  rw [run_succ rfl rfl, body_eq (nt := 41) (fn := Go.Proofs.Try.f24) (by kernel_rfl) rfl rfl rfl rfl rfl rfl rfl rfl]
  simp -implicitDefEqProofs only [Nat.add_sub_cancel] at c0 c1
  simp -implicitDefEqProofs only [W4, ↓D4, ↓DA, ↓DP, ↓DC, Go.Proofs.Try.f24, SH, dedup, nodupB, idx, AV.rows, AV.rowss, AV.mapO, AV.mapOs, Int.reduceToNat, id_eq, Int.reduceBEq, Int.reduceLE, Int.reduceLT, Nat.reduceAdd, Nat.reduceEqDiff, Nat.reduceLT, Nat.reduceLeDiff, Nat.reduceMul, Nat.reduceSub, reduceIte]
  rw [ev_loop]
  refine Eq.trans (loop_list (Q := fun (_ : Unit) x => thenEnd E.P _ _ 0 (thenEv E _ _ _ _ _ (outOf 0 x)) = some (.int .i64 (z + ((sumG condW s : Nat) : Int)), [[.own 0 false 41 4 ((mksG condMk condW z s).map Cond.tencN)]])) s (fun _ _ _ => .inr ()) id
    (fun i _ => { sl := [(0, .own 0 false 41 4 (Rat condMk condW Cond.tencN z s i)), (1, .int .i64 (Zat condW z s i)), (5, .int .i64 (i : Nat))], bx := [], nx := 1, nt := 41 }) (fun _ _ => True) () ?_ ?_ (by omega) trivial ?_) ?_
  · intro _ _
    simp -implicitDefEqProofs only [W3, ↓D3, ↓DA, ↓DP, ↓DC, QX, Rat_len, SH, leaf_some, isNormal, Int.reduceToNat, id_eq, Int.reduceBEq, Int.reduceLE, Int.reduceLT, Nat.reduceAdd, Nat.reduceEqDiff, Nat.reduceLT, Nat.reduceLeDiff, Nat.reduceMul, Nat.reduceSub, reduceIte]
    repeat' (split <;> (rename_i h; (try simp -implicitDefEqProofs only [Bool.not_eq_true', Bool.not_eq_false', decide_eq_true_eq, decide_eq_false_iff_not] at h); (try simp -implicitDefEqProofs only [W3, ↓D3, ↓DA, ↓DP, ↓DC, QX, *, Rat_len, SH, leaf_some, isNormal, Int.reduceToNat, id_eq, Int.reduceBEq, Int.reduceLE, Int.reduceLT, Nat.reduceAdd, Nat.reduceEqDiff, Nat.reduceLT, Nat.reduceLeDiff, Nat.reduceMul, Nat.reduceSub, reduceIte])))
    rw [finish_mut1 rfl]
    simp -implicitDefEqProofs only [W3, ↓D3, ↓DA, ↓DP, ↓DC, finC, Rat_end, Zat_end, Int.reduceToNat, id_eq, Int.reduceBEq, Int.reduceLE, Int.reduceLT, SH, Nat.reduceAdd, Nat.reduceEqDiff, Nat.reduceLT, Nat.reduceLeDiff, Nat.reduceMul, Nat.reduceSub, reduceIte]
  · intro pre x r b hs' _
    have hx := (at_row hs' hs).1; have hc := (at_row hs' hs).2.1; have hlt := (at_row hs' hs).2.2.1; have hw1 := (at_row hs' hs).2.2.2.1; have hl9 := (at_row hs' hs).2.2.2.2
    have hat := Rat_at (M := condMk) (W := condW) (T := Cond.tencN) (z := z) hs'
    have hset := Rat_set (M := condMk) (W := condW) (T := Cond.tencN) (z := z) hs'
    have hlen := Rat_len condMk condW Cond.tencN z s pre.length
    have hsucc := Zat_succ (W := condW) (z := z) hs'
    have hle := Zat_le (W := condW) (z := z) (s := s) (i := pre.length)
    have hle1 := Zat_le (W := condW) (z := z) (s := s) (i := pre.length + 1)
    clear hs'
    rw [hsucc] at hle1
    rw [condW_eq] at hsucc hle1
    have c2 := c1 x hc (Zat condW z s pre.length + 3) (by omega)
    generalize Zat condW z s pre.length = Z at *
    have hw2 : IntKind.i64.wrap (Z + 1) = Z + 1 := IntWalk.i64_in _ (by omega)
    have hw3 : IntKind.i64.wrap (Z + 1 + 1) = Z + 2 := by rw [IntWalk.i64_in _ (by omega)]; omega
    have hw4 : IntKind.i64.wrap (Z + 2 + 1) = Z + 3 := by rw [IntWalk.i64_in _ (by omega)]; omega
    have hsc := tscals_N (mksG condMk condW (Z + 3) x.args)
    have hfin : Z + 3 + ((sumG condW x.args : Nat) : Int) = Zat condW z s (pre.length + 1) := by rw [hsucc]; omega
    rw [hfin] at c2
    rw [tencN_mk] at hset
    rw [tencN_eq] at hat
    rcases Classical.em (x.args.map Cond.tencN = []) with h2 | h2
    · obtain ⟨hm0, hw0⟩ := mks_nil (M := condMk) (W := condW) (z := Z + 3) h2
      rw [hm0, cellN_nil] at hset
      rw [h2, cellN_nil] at hat
      have c3 := c0 (Z + 3)
      have hz3 : Z + 3 = Zat condW z s (pre.length + 1) := by rw [hsucc, hw0]; omega
      have c2 : run E noExt k 24 [.sl true [], .int .i64 (Z + 3)] [] = some (.int .i64 (Zat condW z s (pre.length + 1)), [[.sl true []]]) := by rw [← hz3]; exact c3
      generalize Rat condMk condW Cond.tencN z s pre.length = b at *
      have hl2 : ((pre.length : Nat) : Int) < ((b.length : Nat) : Int) := by omega
      have hg : ∀ v : AV, (b.set pre.length v)[pre.length]? = some v := fun v => List.getElem?_set_self (by omega)
      have hl3 : ((pre.length : Nat) : Int) < (((Rat condMk condW Cond.tencN z s (pre.length + 1)).length : Nat) : Int) := by rw [Rat_len]; omega
      have hat3 : (Rat condMk condW Cond.tencN z s (pre.length + 1))[pre.length]? = some (.agg [.int .i64 Z, .int .i64 (Z + 1), .int .i64 (Z + 2), .sl true []]) := by rw [← hset]; exact hg _
      simp -implicitDefEqProofs only [W3, ↓D3, ↓DA, ↓DP, ↓DC, QX, hl3, hat3, hlt, hl2, hw1, hw2, hw3, hw4, hat, hg, hset, c2, evCall_mutSlN, List.set_set, List.length_set, List.set_cons_succ, List.set_cons_zero, look_cons, reduceCtorEq, evCall_mutOwn, evCall_mutAgg, evGive, giveRows, ioBoxes, mutArgs, roArgs, handArg, mutSlots, isPtrB, pairs, pairss, back_nil, back_cons, backO, backE, setBoxes, importB, mode_mut, mode_give, mode_io, mode_ro, List.zip_cons_cons, List.zip_nil_left, List.zip_nil_right, ite_self, ite_true, ite_false, finish_give, finish_mut1, finish_io0, finish_io1, finish_io2, finish_io3, finish_ioc, finI, finC, finW_ptr, SH, keep_24_2, leaf_some, isNormal, Int.reduceToNat, id_eq, Int.reduceBEq, Int.reduceLE, Int.reduceLT, Nat.reduceAdd, Nat.reduceEqDiff, Nat.reduceLT, Nat.reduceLeDiff, Nat.reduceMul, Nat.reduceSub, reduceIte]
      repeat' (split <;> (rename_i h; (try simp -implicitDefEqProofs only [Bool.not_eq_true', Bool.not_eq_false', decide_eq_true_eq, decide_eq_false_iff_not] at h); (try simp -implicitDefEqProofs only [W3, ↓D3, ↓DA, ↓DP, ↓DC, QX, *, hl3, hat3, hlt, hl2, hw1, hw2, hw3, hw4, hat, hg, hset, c2, evCall_mutSlN, List.set_set, List.length_set, List.set_cons_succ, List.set_cons_zero, look_cons, reduceCtorEq, evCall_mutOwn, evCall_mutAgg, evGive, giveRows, ioBoxes, mutArgs, roArgs, handArg, mutSlots, isPtrB, pairs, pairss, back_nil, back_cons, backO, backE, setBoxes, importB, mode_mut, mode_give, mode_io, mode_ro, List.zip_cons_cons, List.zip_nil_left, List.zip_nil_right, ite_self, ite_true, ite_false, finish_give, finish_mut1, finish_io0, finish_io1, finish_io2, finish_io3, finish_ioc, finI, finC, finW_ptr, SH, keep_24_2, leaf_some, isNormal, Int.reduceToNat, id_eq, Int.reduceBEq, Int.reduceLE, Int.reduceLT, Nat.reduceAdd, Nat.reduceEqDiff, Nat.reduceLT, Nat.reduceLeDiff, Nat.reduceMul, Nat.reduceSub, reduceIte])))
    · rw [cellN_ne (mks_ne h2)] at hset
      rw [cellN_ne h2] at hat
      generalize Rat condMk condW Cond.tencN z s pre.length = b at *
      have hl2 : ((pre.length : Nat) : Int) < ((b.length : Nat) : Int) := by omega
      have hg : ∀ v : AV, (b.set pre.length v)[pre.length]? = some v := fun v => List.getElem?_set_self (by omega)
      have hg2 : ∀ cs, (b.set pre.length (.agg cs))[pre.length]? = some (.agg cs) := fun v => List.getElem?_set_self (by omega)
      have h4 := fun ros dst st => evSub_row (Φ := run E noExt k) (n := 24) (id := 0) (xs := b.set pre.length (.agg [.int .i64 Z, .int .i64 (Z + 1), .int .i64 (Z + 2), .tr 41 4 (x.args.map Cond.tencN)])) (i := pre.length) (k := 3) (ros := ros) (dst := dst) (st := st) (hg2 _) rfl
      simp -implicitDefEqProofs only [W3, ↓D3, ↓DA, ↓DP, ↓DC, QX, hlt, hl2, hw1, hw2, hw3, hw4, hat, hg, hsc, hset, evCall_sub, h4, c2, subOut_some, isScal, List.set_set, List.length_set, List.set_cons_succ, List.set_cons_zero, look_cons, reduceCtorEq, evCall_mutOwn, evCall_mutAgg, evGive, giveRows, ioBoxes, mutArgs, roArgs, handArg, mutSlots, isPtrB, pairs, pairss, back_nil, back_cons, backO, backE, setBoxes, importB, mode_mut, mode_give, mode_io, mode_ro, List.zip_cons_cons, List.zip_nil_left, List.zip_nil_right, ite_self, ite_true, ite_false, finish_give, finish_mut1, finish_io0, finish_io1, finish_io2, finish_io3, finish_ioc, finI, finC, finW_ptr, SH, keep_24_2, leaf_some, isNormal, Int.reduceToNat, id_eq, Int.reduceBEq, Int.reduceLE, Int.reduceLT, Nat.reduceAdd, Nat.reduceEqDiff, Nat.reduceLT, Nat.reduceLeDiff, Nat.reduceMul, Nat.reduceSub, reduceIte]
      repeat' (split <;> (rename_i h; (try simp -implicitDefEqProofs only [Bool.not_eq_true', Bool.not_eq_false', decide_eq_true_eq, decide_eq_false_iff_not] at h); (try simp -implicitDefEqProofs only [W3, ↓D3, ↓DA, ↓DP, ↓DC, QX, *, hlt, hl2, hw1, hw2, hw3, hw4, hat, hg, hsc, hset, evCall_sub, h4, c2, subOut_some, isScal, List.set_set, List.length_set, List.set_cons_succ, List.set_cons_zero, look_cons, reduceCtorEq, evCall_mutOwn, evCall_mutAgg, evGive, giveRows, ioBoxes, mutArgs, roArgs, handArg, mutSlots, isPtrB, pairs, pairss, back_nil, back_cons, backO, backE, setBoxes, importB, mode_mut, mode_give, mode_io, mode_ro, List.zip_cons_cons, List.zip_nil_left, List.zip_nil_right, ite_self, ite_true, ite_false, finish_give, finish_mut1, finish_io0, finish_io1, finish_io2, finish_io3, finish_ioc, finI, finC, finW_ptr, SH, keep_24_2, leaf_some, isNormal, Int.reduceToNat, id_eq, Int.reduceBEq, Int.reduceLE, Int.reduceLT, Nat.reduceAdd, Nat.reduceEqDiff, Nat.reduceLT, Nat.reduceLeDiff, Nat.reduceMul, Nat.reduceSub, reduceIte])))
  · simp -implicitDefEqProofs only [firstRegion]
    rw [keep_24_2]
    simp -implicitDefEqProofs only [W3, ↓D3, ↓DA, ↓DP, ↓DC, Rat_zero, Zat_zero, Int.reduceToNat, id_eq, Int.reduceBEq, Int.reduceLE, Int.reduceLT, SH, Nat.reduceAdd, Nat.reduceEqDiff, Nat.reduceLT, Nat.reduceLeDiff, Nat.reduceMul, Nat.reduceSub, reduceIte]
  · rfl
theorem markArgsN (c : Cond) : ∀ k, 281474976710656 + 4 * c.w + 2 ≤ k → ∀ z : Int, 0 ≤ z ∧ z + (sumG condW c.args : Nat) ≤ 4398046511104 →
    run E noExt k 24 [.own 0 false 41 4 (c.args.map Cond.tencN), .int .i64 z] [] = some (.int .i64 (z + ((sumG condW c.args : Nat) : Int)), [[.own 0 false 41 4 ((mksG condMk condW z c.args).map Cond.tencN)]]) := by
  induction c using Cond.induct with
  | h c ih =>
    intro k hk z hz
    rw [c.w_eq] at hk
    exact r_laws_markCondSN0 k c.args hk z hz fun d hd y hy => ih d hd (k - 1) (by have := wl_mem (w := Cond.w) hd; omega) y ⟨hy.1, by omega⟩
theorem tencN_mkR (z : Int) (r : Rule) : (ruleMk z r).tencN = .agg [.int .i64 z, .int .i64 (z + 1), .int .i64 (z + 2), .int .i64 (z + 3), .int .i64 (z + 4), .int .i64 (z + 5), cellN ((mksG condMk condW (z + 6) r.cond.args).map Cond.tencN)] := rfl
theorem r_laws_markRuleSN (k : Nat) (s : List Rule) (hk : 281474976710656 + 4 * wl Rule.w s + 3 ≤ k) (z : Int) (hz : 0 ≤ z ∧ z + (sumG ruleW s : Nat) ≤ 4398046511104) :
    run E noExt k 17 [.own 0 false 43 7 (s.map Rule.tencN), .int .i64 z] [] = some (.int .i64 (z + ((sumG ruleW s : Nat) : Int)), [[.own 0 false 43 7 ((mksG ruleMk ruleW z s).map Rule.tencN)]]) := by
  have hsl : s.length ≤ sumG ruleW s := by
    clear hk hz
    induction s with
    | nil => simp [sumG]
    | cons c r ih => simp -implicitDefEqProofs only [sumG, ruleW, List.length_cons]; omega
  have hs : s.length ≤ 140737488355328 := by omega
  have c1 := fun (x : Rule) (hx : x ∈ s) y hy => markArgsN x.cond (k - 1) (by have := wl_mem (w := Rule.w) hx; have hw : x.w = x.cond.w := rfl; omega) y hy
  have c0 := r_laws_markCondS_nil (fl := true) (k - 1) (by omega)
  obtain ⟨k, rfl⟩ : ∃ j, k = j + 1 := ⟨k - 1, by omega⟩
  rw [run_succ rfl rfl, body_eq (nt := 66) (fn := Go.Proofs.Try.f17) (by kernel_rfl) rfl rfl rfl rfl rfl rfl rfl rfl]
  simp -implicitDefEqProofs only [Nat.add_sub_cancel] at c0 c1
  simp -implicitDefEqProofs only [W4, ↓D4, ↓DA, ↓DP, ↓DC, Go.Proofs.Try.f17, SH, dedup, nodupB, idx, AV.rows, AV.rowss, AV.mapO, AV.mapOs, Int.reduceToNat, id_eq, Int.reduceBEq, Int.reduceLE, Int.reduceLT, Nat.reduceAdd, Nat.reduceEqDiff, Nat.reduceLT, Nat.reduceLeDiff, Nat.reduceMul, Nat.reduceSub, reduceIte]
  rw [ev_loop]
  refine Eq.trans (loop_list (Q := fun (_ : Unit) x => thenEnd E.P _ _ 0 (thenEv E _ _ _ _ _ (outOf 0 x)) = some (.int .i64 (z + ((sumG ruleW s : Nat) : Int)), [[.own 0 false 43 7 ((mksG ruleMk ruleW z s).map Rule.tencN)]])) s (fun _ _ _ => .inr ()) id
    (fun i _ => { sl := [(0, .own 0 false 43 7 (Rat ruleMk ruleW Rule.tencN z s i)), (1, .int .i64 (Zat ruleW z s i)), (5, .int .i64 (i : Nat))], bx := [], nx := 1, nt := 66 }) (fun _ _ => True) () ?_ ?_ (by omega) trivial ?_) ?_
  · intro _ _
    simp -implicitDefEqProofs only [W3, ↓D3, ↓DA, ↓DP, ↓DC, QX, Rat_len, SH, leaf_some, isNormal, Int.reduceToNat, id_eq, Int.reduceBEq, Int.reduceLE, Int.reduceLT, Nat.reduceAdd, Nat.reduceEqDiff, Nat.reduceLT, Nat.reduceLeDiff, Nat.reduceMul, Nat.reduceSub, reduceIte]
    repeat' (split <;> (rename_i h; (try simp -implicitDefEqProofs only [Bool.not_eq_true', Bool.not_eq_false', decide_eq_true_eq, decide_eq_false_iff_not] at h); (try simp -implicitDefEqProofs only [W3, ↓D3, ↓DA, ↓DP, ↓DC, QX, *, Rat_len, SH, leaf_some, isNormal, Int.reduceToNat, id_eq, Int.reduceBEq, Int.reduceLE, Int.reduceLT, Nat.reduceAdd, Nat.reduceEqDiff, Nat.reduceLT, Nat.reduceLeDiff, Nat.reduceMul, Nat.reduceSub, reduceIte])))
    rw [finish_mut1 rfl]
    simp -implicitDefEqProofs only [W3, ↓D3, ↓DA, ↓DP, ↓DC, finC, Rat_end, Zat_end, Int.reduceToNat, id_eq, Int.reduceBEq, Int.reduceLE, Int.reduceLT, SH, Nat.reduceAdd, Nat.reduceEqDiff, Nat.reduceLT, Nat.reduceLeDiff, Nat.reduceMul, Nat.reduceSub, reduceIte]
  · intro pre x r b hs' _
    have hx := (at_row hs' hs).1; have hc := (at_row hs' hs).2.1; have hlt := (at_row hs' hs).2.2.1; have hw1 := (at_row hs' hs).2.2.2.1; have hl9 := (at_row hs' hs).2.2.2.2
    have hat := Rat_at (M := ruleMk) (W := ruleW) (T := Rule.tencN) (z := z) hs'
    have hset := Rat_set (M := ruleMk) (W := ruleW) (T := Rule.tencN) (z := z) hs'
    have hlen := Rat_len ruleMk ruleW Rule.tencN z s pre.length
    have hsucc := Zat_succ (W := ruleW) (z := z) hs'
    have hle := Zat_le (W := ruleW) (z := z) (s := s) (i := pre.length)
    have hle1 := Zat_le (W := ruleW) (z := z) (s := s) (i := pre.length + 1)
    clear hs'
    rw [hsucc] at hle1
    rw [show ruleW x = 6 + sumG condW x.cond.args from rfl] at hsucc hle1
    have c2 := c1 x hc (Zat ruleW z s pre.length + 6) (by omega)
    generalize Zat ruleW z s pre.length = Z at *
    have hw2 : IntKind.i64.wrap (Z + 1) = Z + 1 := IntWalk.i64_in _ (by omega)
    have hw3 : IntKind.i64.wrap (Z + 1 + 1) = Z + 2 := by rw [IntWalk.i64_in _ (by omega)]; omega
    have hw4 : IntKind.i64.wrap (Z + 2 + 1) = Z + 3 := by rw [IntWalk.i64_in _ (by omega)]; omega
    have hw5 : IntKind.i64.wrap (Z + 3 + 1) = Z + 4 := by rw [IntWalk.i64_in _ (by omega)]; omega
    have hw6 : IntKind.i64.wrap (Z + 4 + 1) = Z + 5 := by rw [IntWalk.i64_in _ (by omega)]; omega
    have hw7 : IntKind.i64.wrap (Z + 5 + 1) = Z + 6 := by rw [IntWalk.i64_in _ (by omega)]; omega
    have hsc := tscals_N (mksG condMk condW (Z + 6) x.cond.args)
    have hfin : Z + 6 + ((sumG condW x.cond.args : Nat) : Int) = Zat ruleW z s (pre.length + 1) := by rw [hsucc]; omega
    rw [hfin] at c2
    rw [tencN_mkR] at hset
    rw [tencN_rule] at hat
    rcases Classical.em (x.cond.args.map Cond.tencN = []) with h2 | h2
    · obtain ⟨hm0, hw0⟩ := mks_nil (M := condMk) (W := condW) (z := Z + 6) h2
      rw [hm0, cellN_nil] at hset
      rw [h2, cellN_nil] at hat
      have c3 := c0 (Z + 6)
      have hz3 : Z + 6 = Zat ruleW z s (pre.length + 1) := by rw [hsucc, hw0]; omega
      have c2 : run E noExt k 24 [.sl true [], .int .i64 (Z + 6)] [] = some (.int .i64 (Zat ruleW z s (pre.length + 1)), [[.sl true []]]) := by rw [← hz3]; exact c3
      generalize Rat ruleMk ruleW Rule.tencN z s pre.length = b at *
      have hl2 : ((pre.length : Nat) : Int) < ((b.length : Nat) : Int) := by omega
      have hg : ∀ v : AV, (b.set pre.length v)[pre.length]? = some v := fun v => List.getElem?_set_self (by omega)
      have hl3 : ((pre.length : Nat) : Int) < (((Rat ruleMk ruleW Rule.tencN z s (pre.length + 1)).length : Nat) : Int) := by rw [Rat_len]; omega
      have hat3 : (Rat ruleMk ruleW Rule.tencN z s (pre.length + 1))[pre.length]? = some (.agg [.int .i64 Z, .int .i64 (Z + 1), .int .i64 (Z + 2), .int .i64 (Z + 3), .int .i64 (Z + 4), .int .i64 (Z + 5), .sl true []]) := by rw [← hset]; exact hg _
      simp -implicitDefEqProofs only [W3, ↓D3, ↓DA, ↓DP, ↓DC, QX, hl3, hat3, hlt, hl2, hw1, hw2, hw3, hw4, hw5, hw6, hw7, hat, hg, hset, c2, evCall_mutSlN, List.set_set, List.length_set, List.set_cons_succ, List.set_cons_zero, look_cons, reduceCtorEq, evCall_mutOwn, evCall_mutAgg, evGive, giveRows, ioBoxes, mutArgs, roArgs, handArg, mutSlots, isPtrB, pairs, pairss, back_nil, back_cons, backO, backE, setBoxes, importB, mode_mut, mode_give, mode_io, mode_ro, List.zip_cons_cons, List.zip_nil_left, List.zip_nil_right, ite_self, ite_true, ite_false, finish_give, finish_mut1, finish_io0, finish_io1, finish_io2, finish_io3, finish_ioc, finI, finC, finW_ptr, SH, keep_17_2, leaf_some, isNormal, Int.reduceToNat, id_eq, Int.reduceBEq, Int.reduceLE, Int.reduceLT, Nat.reduceAdd, Nat.reduceEqDiff, Nat.reduceLT, Nat.reduceLeDiff, Nat.reduceMul, Nat.reduceSub, reduceIte]
      repeat' (split <;> (rename_i h; (try simp -implicitDefEqProofs only [Bool.not_eq_true', Bool.not_eq_false', decide_eq_true_eq, decide_eq_false_iff_not] at h); (try simp -implicitDefEqProofs only [W3, ↓D3, ↓DA, ↓DP, ↓DC, QX, *, hl3, hat3, hlt, hl2, hw1, hw2, hw3, hw4, hw5, hw6, hw7, hat, hg, hset, c2, evCall_mutSlN, List.set_set, List.length_set, List.set_cons_succ, List.set_cons_zero, look_cons, reduceCtorEq, evCall_mutOwn, evCall_mutAgg, evGive, giveRows, ioBoxes, mutArgs, roArgs, handArg, mutSlots, isPtrB, pairs, pairss, back_nil, back_cons, backO, backE, setBoxes, importB, mode_mut, mode_give, mode_io, mode_ro, List.zip_cons_cons, List.zip_nil_left, List.zip_nil_right, ite_self, ite_true, ite_false, finish_give, finish_mut1, finish_io0, finish_io1, finish_io2, finish_io3, finish_ioc, finI, finC, finW_ptr, SH, keep_17_2, leaf_some, isNormal, Int.reduceToNat, id_eq, Int.reduceBEq, Int.reduceLE, Int.reduceLT, Nat.reduceAdd, Nat.reduceEqDiff, Nat.reduceLT, Nat.reduceLeDiff, Nat.reduceMul, Nat.reduceSub, reduceIte])))
    · rw [cellN_ne (mks_ne h2)] at hset
      rw [cellN_ne h2] at hat
      generalize Rat ruleMk ruleW Rule.tencN z s pre.length = b at *
      have hl2 : ((pre.length : Nat) : Int) < ((b.length : Nat) : Int) := by omega
      have hg : ∀ v : AV, (b.set pre.length v)[pre.length]? = some v := fun v => List.getElem?_set_self (by omega)
      have hg2 : ∀ cs, (b.set pre.length (.agg cs))[pre.length]? = some (.agg cs) := fun v => List.getElem?_set_self (by omega)
      have h4 := fun ros dst st => evSub_row (Φ := run E noExt k) (n := 24) (id := 0) (xs := b.set pre.length (.agg [.int .i64 Z, .int .i64 (Z + 1), .int .i64 (Z + 2), .int .i64 (Z + 3), .int .i64 (Z + 4), .int .i64 (Z + 5), .tr 41 4 (x.cond.args.map Cond.tencN)])) (i := pre.length) (k := 6) (ros := ros) (dst := dst) (st := st) (hg2 _) rfl
      simp -implicitDefEqProofs only [W3, ↓D3, ↓DA, ↓DP, ↓DC, QX, hlt, hl2, hw1, hw2, hw3, hw4, hw5, hw6, hw7, hat, hg, hsc, hset, evCall_sub, h4, c2, subOut_some, isScal, List.set_set, List.length_set, List.set_cons_succ, List.set_cons_zero, look_cons, reduceCtorEq, evCall_mutOwn, evCall_mutAgg, evGive, giveRows, ioBoxes, mutArgs, roArgs, handArg, mutSlots, isPtrB, pairs, pairss, back_nil, back_cons, backO, backE, setBoxes, importB, mode_mut, mode_give, mode_io, mode_ro, List.zip_cons_cons, List.zip_nil_left, List.zip_nil_right, ite_self, ite_true, ite_false, finish_give, finish_mut1, finish_io0, finish_io1, finish_io2, finish_io3, finish_ioc, finI, finC, finW_ptr, SH, keep_17_2, leaf_some, isNormal, Int.reduceToNat, id_eq, Int.reduceBEq, Int.reduceLE, Int.reduceLT, Nat.reduceAdd, Nat.reduceEqDiff, Nat.reduceLT, Nat.reduceLeDiff, Nat.reduceMul, Nat.reduceSub, reduceIte]
      repeat' (split <;> (rename_i h; (try simp -implicitDefEqProofs only [Bool.not_eq_true', Bool.not_eq_false', decide_eq_true_eq, decide_eq_false_iff_not] at h); (try simp -implicitDefEqProofs only [W3, ↓D3, ↓DA, ↓DP, ↓DC, QX, *, hlt, hl2, hw1, hw2, hw3, hw4, hw5, hw6, hw7, hat, hg, hsc, hset, evCall_sub, h4, c2, subOut_some, isScal, List.set_set, List.length_set, List.set_cons_succ, List.set_cons_zero, look_cons, reduceCtorEq, evCall_mutOwn, evCall_mutAgg, evGive, giveRows, ioBoxes, mutArgs, roArgs, handArg, mutSlots, isPtrB, pairs, pairss, back_nil, back_cons, backO, backE, setBoxes, importB, mode_mut, mode_give, mode_io, mode_ro, List.zip_cons_cons, List.zip_nil_left, List.zip_nil_right, ite_self, ite_true, ite_false, finish_give, finish_mut1, finish_io0, finish_io1, finish_io2, finish_io3, finish_ioc, finI, finC, finW_ptr, SH, keep_17_2, leaf_some, isNormal, Int.reduceToNat, id_eq, Int.reduceBEq, Int.reduceLE, Int.reduceLT, Nat.reduceAdd, Nat.reduceEqDiff, Nat.reduceLT, Nat.reduceLeDiff, Nat.reduceMul, Nat.reduceSub, reduceIte])))
  · simp -implicitDefEqProofs only [firstRegion]
    rw [keep_17_2]
    simp -implicitDefEqProofs only [W3, ↓D3, ↓DA, ↓DP, ↓DC, Rat_zero, Zat_zero, Int.reduceToNat, id_eq, Int.reduceBEq, Int.reduceLE, Int.reduceLT, SH, Nat.reduceAdd, Nat.reduceEqDiff, Nat.reduceLT, Nat.reduceLeDiff, Nat.reduceMul, Nat.reduceSub, reduceIte]
  · rfl
end Go.Proofs.Ytkolknigffoleaa.Flat
