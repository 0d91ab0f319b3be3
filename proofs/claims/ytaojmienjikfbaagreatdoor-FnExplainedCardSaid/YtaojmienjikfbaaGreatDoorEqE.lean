/-
Functions on whole numbers: what they compute.
-/
import Derived.Test.YtaojmienjikfbaaGreatDoorFlatCF
import Derived.Test.YtaojmienjikfbaaGreatDoorEqD
set_option linter.unusedVariables false
set_option linter.unusedSimpArgs false
namespace Go.Proofs.YtaojmienjikfbaaGreatDoor.Flat
def inR (n a b : Int) : Bool := decide (a ≤ n) && decide (n ≤ b)
theorem r_spec_l1In (k : Nat) (hk : 281474976710656 + 1 ≤ k) (n a b : Int) : run E noExt k 45 [.int .i64 n, .int .i64 a, .int .i64 b] [] = some (.bool (inR n a b), []) := by
  obtain ⟨k, rfl⟩ : ∃ j, k = j + 1 := ⟨k - 1, by omega⟩
  rw [run_succ rfl rfl, body_eq (nt := 15) (fn := Go.Proofs.Tryz.f45) (by kernel_rfl) rfl rfl rfl rfl rfl rfl rfl rfl]
  simp -implicitDefEqProofs only [↓DC, QS, ZRS, ↓ZDS, Go.Proofs.Tryz.f45, SS, one_ne2, num_ne2, TIS, MDS, Nat.reduceAdd, Nat.reduceEqDiff, Nat.reduceLT, Nat.reduceLeDiff, Nat.reduceMul, Nat.reduceSub, reduceIte]
  by_cases h : a ≤ n <;> simp -implicitDefEqProofs only [↓DC, QS, ZRS, ↓ZDS, h, inR, SS, one_ne2, num_ne2, TIS, MDS, Nat.reduceAdd, Nat.reduceEqDiff, Nat.reduceLT, Nat.reduceLeDiff, Nat.reduceMul, Nat.reduceSub, reduceIte]
theorem r_impl_InRange (k : Nat) (hk : 281474976710656 + 1 ≤ k) (n a b : Int) : run E noExt k 52 [.int .i64 n, .int .i64 a, .int .i64 b] [] = some (.bool (inR n a b), []) := by
  obtain ⟨k, rfl⟩ : ∃ j, k = j + 1 := ⟨k - 1, by omega⟩
  rw [run_succ rfl rfl, body_eq (nt := 15) (fn := Go.Proofs.Tryz.f52) (by kernel_rfl) rfl rfl rfl rfl rfl rfl rfl rfl]
  simp -implicitDefEqProofs only [↓DC, QS, ZRS, ↓ZDS, Go.Proofs.Tryz.f52, SS, one_ne2, num_ne2, TIS, MDS, Nat.reduceAdd, Nat.reduceEqDiff, Nat.reduceLT, Nat.reduceLeDiff, Nat.reduceMul, Nat.reduceSub, reduceIte]
  by_cases h : a ≤ n <;> simp -implicitDefEqProofs only [↓DC, QS, ZRS, ↓ZDS, h, inR, SS, one_ne2, num_ne2, TIS, MDS, Nat.reduceAdd, Nat.reduceEqDiff, Nat.reduceLT, Nat.reduceLeDiff, Nat.reduceMul, Nat.reduceSub, reduceIte]
def isT (n : Int) : Bool := inR n 0 10000
theorem r_spec_IsTime (k : Nat) (hk : 281474976710656 + 2 ≤ k) (n : Int) : run E noExt k 46 [.int .i64 n] [] = some (.bool (isT n), []) := by
  obtain ⟨k, rfl⟩ : ∃ j, k = j + 1 := ⟨k - 1, by omega⟩
  rw [run_succ rfl rfl, body_eq (nt := 5) (fn := Go.Proofs.Tryz.f46) (by kernel_rfl) rfl rfl rfl rfl rfl rfl rfl rfl]
  have c_spec_l1In := r_spec_l1In k (by omega)
  simp -implicitDefEqProofs only [W1, ↓D1, ↓DC, QX, Go.Proofs.Tryz.f46, c_spec_l1In, Int.reduceToNat, id_eq, Int.reduceBEq, Int.reduceLE, Int.reduceLT, Nat.reduceAdd, Nat.reduceEqDiff, Nat.reduceLT, Nat.reduceLeDiff, Nat.reduceMul, Nat.reduceSub, reduceIte]
  repeat' (split <;> (rename_i h; (try simp -implicitDefEqProofs only [Bool.not_eq_true', Bool.not_eq_false', decide_eq_true_eq, decide_eq_false_iff_not] at h); (try simp -implicitDefEqProofs only [W1, ↓D1, ↓DC, QX, *, c_spec_l1In, Int.reduceToNat, id_eq, Int.reduceBEq, Int.reduceLE, Int.reduceLT, Nat.reduceAdd, Nat.reduceEqDiff, Nat.reduceLT, Nat.reduceLeDiff, Nat.reduceMul, Nat.reduceSub, reduceIte])))
  rfl
theorem r_impl_IsTime (k : Nat) (hk : 281474976710656 + 2 ≤ k) (n : Int) : run E noExt k 53 [.int .i64 n] [] = some (.bool (isT n), []) := by
  obtain ⟨k, rfl⟩ : ∃ j, k = j + 1 := ⟨k - 1, by omega⟩
  rw [run_succ rfl rfl, body_eq (nt := 5) (fn := Go.Proofs.Tryz.f53) (by kernel_rfl) rfl rfl rfl rfl rfl rfl rfl rfl]
  have c_impl_InRange := r_impl_InRange k (by omega)
  simp -implicitDefEqProofs only [W1, ↓D1, ↓DC, QX, Go.Proofs.Tryz.f53, c_impl_InRange, Int.reduceToNat, id_eq, Int.reduceBEq, Int.reduceLE, Int.reduceLT, Nat.reduceAdd, Nat.reduceEqDiff, Nat.reduceLT, Nat.reduceLeDiff, Nat.reduceMul, Nat.reduceSub, reduceIte]
  repeat' (split <;> (rename_i h; (try simp -implicitDefEqProofs only [Bool.not_eq_true', Bool.not_eq_false', decide_eq_true_eq, decide_eq_false_iff_not] at h); (try simp -implicitDefEqProofs only [W1, ↓D1, ↓DC, QX, *, c_impl_InRange, Int.reduceToNat, id_eq, Int.reduceBEq, Int.reduceLE, Int.reduceLT, Nat.reduceAdd, Nat.reduceEqDiff, Nat.reduceLT, Nat.reduceLeDiff, Nat.reduceMul, Nat.reduceSub, reduceIte])))
  rfl
def arity (n : Int) : Int := if (n == 7) = true then 1 else if (n == 8) = true then 2 else if (n == 9) = true then 2 else if inR n 1 6 = true then 0 else -1
theorem r_impl_ArityOf (k : Nat) (hk : 281474976710656 + 2 ≤ k) (n : Int) : run E noExt k 137 [.int .i64 n] [] = some (.int .i64 (arity n), []) := by
  obtain ⟨k, rfl⟩ : ∃ j, k = j + 1 := ⟨k - 1, by omega⟩
  rw [run_succ rfl rfl, body_eq (nt := 16) (fn := Go.Proofs.Tryz.f137) (by kernel_rfl) rfl rfl rfl rfl rfl rfl rfl rfl]
  have c_impl_InRange := r_impl_InRange k (by omega)
  simp -implicitDefEqProofs only [W1, ↓D1, ↓DC, QX, Go.Proofs.Tryz.f137, c_impl_InRange, Int.reduceToNat, id_eq, Int.reduceBEq, Int.reduceLE, Int.reduceLT, Nat.reduceAdd, Nat.reduceEqDiff, Nat.reduceLT, Nat.reduceLeDiff, Nat.reduceMul, Nat.reduceSub, reduceIte]
  repeat' (split <;> (rename_i h; (try simp -implicitDefEqProofs only [Bool.not_eq_true', Bool.not_eq_false', decide_eq_true_eq, decide_eq_false_iff_not] at h); (try simp -implicitDefEqProofs only [W1, ↓D1, ↓DC, QX, *, c_impl_InRange, Int.reduceToNat, id_eq, Int.reduceBEq, Int.reduceLE, Int.reduceLT, Nat.reduceAdd, Nat.reduceEqDiff, Nat.reduceLT, Nat.reduceLeDiff, Nat.reduceMul, Nat.reduceSub, reduceIte])))
  all_goals simp -implicitDefEqProofs only [arity, *, reduceIte, Bool.false_eq_true]
def nodeOk (op a b : Int) (len : Nat) : Bool :=
  (((len : Int) == arity op) && inR a 0 (if (op == 2) = true then 5 else if (op == 4) = true then 3 else if (op == 5) = true then 3 else if (op == 6) = true then 10000 else 0)) && inR b 0 (if inR op 2 5 = true then 10000 else 0)
set_option maxHeartbeats 4000000 in
theorem r_impl_isNode (k : Nat) (hk : 281474976710656 + 3 ≤ k) (op a b : Int) (fl : Bool) (xs : List AV) : run E noExt k 119 [.agg [.int .i64 op, .int .i64 a, .int .i64 b, .sl fl xs]] [] = some (.bool (nodeOk op a b xs.length), []) := by
  obtain ⟨k, rfl⟩ : ∃ j, k = j + 1 := ⟨k - 1, by omega⟩
  rw [run_succ rfl rfl, body_eq (nt := 36) (fn := Go.Proofs.Tryz.f119) (by kernel_rfl) rfl rfl rfl rfl rfl rfl rfl rfl]
  have c_impl_InRange := r_impl_InRange k (by omega)
  have c_impl_ArityOf := r_impl_ArityOf k (by omega)
  simp -implicitDefEqProofs only [W1, ↓D1, ↓DC, QX, Go.Proofs.Tryz.f119, c_impl_InRange, c_impl_ArityOf, plan_119_12, len_sl, Int.reduceToNat, id_eq, Int.reduceBEq, Int.reduceLE, Int.reduceLT, Nat.reduceAdd, Nat.reduceEqDiff, Nat.reduceLT, Nat.reduceLeDiff, Nat.reduceMul, Nat.reduceSub, reduceIte]
  repeat' (split <;> (rename_i h; (try simp -implicitDefEqProofs only [Bool.not_eq_true', Bool.not_eq_false', decide_eq_true_eq, decide_eq_false_iff_not] at h); (try simp -implicitDefEqProofs only [W1, ↓D1, ↓DC, QX, *, c_impl_InRange, c_impl_ArityOf, plan_119_12, len_sl, Int.reduceToNat, id_eq, Int.reduceBEq, Int.reduceLE, Int.reduceLT, Nat.reduceAdd, Nat.reduceEqDiff, Nat.reduceLT, Nat.reduceLeDiff, Nat.reduceMul, Nat.reduceSub, reduceIte])))
  all_goals simp -implicitDefEqProofs only [nodeOk, *, reduceIte, Bool.false_eq_true, Bool.true_and, Bool.and_true, Bool.false_and, Bool.and_false]
set_option maxRecDepth 10000
theorem r_slices_Index_Int {fl gl : Bool} (k : Nat) (hk : 281474976710656 + 1 ≤ k) (s : List Int) (hs : s.length ≤ 140737488355328) (x : Int) :
    run E noExt k 67 [.sl fl (s.map (AV.int .i64)), .int .i64 x] [] = some (.int .i64 (indexBy (fun y => decide (x = y)) 0 s), []) := by
  obtain ⟨k, rfl⟩ : ∃ j, k = j + 1 := ⟨k - 1, by omega⟩
  rw [run_succ rfl rfl, body_eq (nt := 19) (fn := Go.Proofs.Tryz.f67) (by kernel_rfl) rfl rfl rfl rfl rfl rfl rfl rfl]
  simp -implicitDefEqProofs only [W1, ↓D1, ↓DC, Go.Proofs.Tryz.f67, ifEv_bool, bne, Int.reduceToNat, id_eq, Int.reduceBEq, Int.reduceLE, Int.reduceLT, Nat.reduceAdd, Nat.reduceEqDiff, Nat.reduceLT, Nat.reduceLeDiff, Nat.reduceMul, Nat.reduceSub, reduceIte]
  rw [ev_loop]
  refine Eq.trans (loop_list (Q := fun g x => thenEnd E.P [] _ 0 (thenEv E _ _ _ _ _ (outOf 0 x)) = some (.int .i64 g, [])) s (indexStep fun y => decide (x = y)) (fun _ => -1)
    (fun i _ => { sl := [(0, .sl fl (s.map (AV.int .i64))), (1, .int .i64 x), (7, .int .i64 (s.length : Nat)), (8, .int .i64 (i : Nat))], bx := [], nx := 0, nt := 19 }) (fun _ _ => True) () ?_ ?_ (by omega) trivial ?_) ?_
  · intro b _
    simp -implicitDefEqProofs only [W2, ↓D2, ↓DC, QX, leaf_some, isNormal, Int.reduceToNat, id_eq, Int.reduceBEq, Int.reduceLE, Int.reduceLT, Nat.reduceAdd, Nat.reduceEqDiff, Nat.reduceLT, Nat.reduceLeDiff, Nat.reduceMul, Nat.reduceSub, reduceIte]
    repeat' (split <;> (rename_i h; (try simp -implicitDefEqProofs only [Bool.not_eq_true', Bool.not_eq_false', decide_eq_true_eq, decide_eq_false_iff_not] at h); (try simp -implicitDefEqProofs only [W2, ↓D2, ↓DC, QX, *, leaf_some, isNormal, Int.reduceToNat, id_eq, Int.reduceBEq, Int.reduceLE, Int.reduceLT, Nat.reduceAdd, Nat.reduceEqDiff, Nat.reduceLT, Nat.reduceLeDiff, Nat.reduceMul, Nat.reduceSub, reduceIte])))
  · intro pre c r b hs' _
    have hx := (at_row hs' hs).1; have hc := (at_row hs' hs).2.1; have hlt := (at_row hs' hs).2.2.1; have hw1 := (at_row hs' hs).2.2.2.1; have hl9 := (at_row hs' hs).2.2.2.2
    clear hs'
    have hq : decide (x = c) = (x == c) := by rw [Bool.eq_iff_iff]; simp
    simp -implicitDefEqProofs only [W2, ↓D2, ↓DC, QX, hx, hlt, hw1, hq, indexStep, keep_67_2, leaf_some, isNormal, Int.reduceToNat, id_eq, Int.reduceBEq, Int.reduceLE, Int.reduceLT, Nat.reduceAdd, Nat.reduceEqDiff, Nat.reduceLT, Nat.reduceLeDiff, Nat.reduceMul, Nat.reduceSub, reduceIte]
    repeat' (split <;> (rename_i h; (try simp -implicitDefEqProofs only [Bool.not_eq_true', Bool.not_eq_false', decide_eq_true_eq, decide_eq_false_iff_not] at h); (try simp -implicitDefEqProofs only [W2, ↓D2, ↓DC, QX, *, hx, hlt, hw1, hq, indexStep, keep_67_2, leaf_some, isNormal, Int.reduceToNat, id_eq, Int.reduceBEq, Int.reduceLE, Int.reduceLT, Nat.reduceAdd, Nat.reduceEqDiff, Nat.reduceLT, Nat.reduceLeDiff, Nat.reduceMul, Nat.reduceSub, reduceIte])))
  · simp -implicitDefEqProofs only [firstRegion]; rw [keep_67_2]; simp -implicitDefEqProofs only [W2, ↓D2, ↓DC, Int.reduceToNat, id_eq, Int.reduceBEq, Int.reduceLE, Int.reduceLT, Nat.reduceAdd, Nat.reduceEqDiff, Nat.reduceLT, Nat.reduceLeDiff, Nat.reduceMul, Nat.reduceSub, reduceIte]; first | done | rfl
  · rw [indexLoop]
theorem r_slices_Contains_Int {fl gl : Bool} (k : Nat) (hk : 281474976710656 + 2 ≤ k) (s : List Int) (hs : s.length ≤ 140737488355328) (x : Int) :
    run E noExt k 41 [.sl fl (s.map (AV.int .i64)), .int .i64 x] [] = some (.bool (s.any fun y => decide (x = y)), []) := by
  have c2 := r_slices_Index_Int (fl := fl) (gl := gl) (k - 1) (by omega) s hs x
  obtain ⟨k, rfl⟩ : ∃ j, k = j + 1 := ⟨k - 1, by omega⟩
  rw [run_succ rfl rfl, body_eq (nt := 9) (fn := Go.Proofs.Tryz.f41) (by kernel_rfl) rfl rfl rfl rfl rfl rfl rfl rfl]
  simp -implicitDefEqProofs only [Nat.add_sub_cancel, id_eq] at c2
  simp -implicitDefEqProofs only [W1, ↓D1, ↓DC, Go.Proofs.Tryz.f41, c2, Int.reduceToNat, id_eq, Int.reduceBEq, Int.reduceLE, Int.reduceLT, Nat.reduceAdd, Nat.reduceEqDiff, Nat.reduceLT, Nat.reduceLeDiff, Nat.reduceMul, Nat.reduceSub, reduceIte]
  rw [indexBy_nonneg]
theorem r_slices_IndexFunc_Fact {fl : Bool} (k : Nat) (s : List Fact) (hk : 281474976710656 + 1 ≤ k) (hs : s.length ≤ 140737488355328) (F : Nat) (caps : List AV) (hP : Plain caps) (p : Fact → Bool)
    (hF : ∀ x ∈ s, run E noExt (k - 1) F ([x.enc fl] ++ caps) [] = some (.bool (p x), [])) (hmdF : E.md F = [] := by rfl) :
    run E noExt k 123 [.sl fl (s.map (Fact.enc fl)), .clo F caps] [] = some (.int .i64 (indexBy p 0 s), []) := by
  obtain ⟨k, rfl⟩ : ∃ j, k = j + 1 := ⟨k - 1, by omega⟩
  rw [run_succ rfl rfl, body_eq (nt := 19) (fn := Go.Proofs.Tryz.f123) (by kernel_rfl) rfl rfl rfl rfl rfl rfl rfl rfl]
  simp -implicitDefEqProofs only [Nat.add_sub_cancel] at hF
  have hR := hP.rows; have hB := hP.boxes; have hM := hP.map; have hLd := hP.lend
  simp -implicitDefEqProofs only [W1, ↓D1, ↓DC, Go.Proofs.Tryz.f123, ifEv_bool, bne, hLd, Int.reduceToNat, id_eq, Int.reduceBEq, Int.reduceLE, Int.reduceLT, Nat.reduceAdd, Nat.reduceEqDiff, Nat.reduceLT, Nat.reduceLeDiff, Nat.reduceMul, Nat.reduceSub, reduceIte]
  rw [ev_loop]
  refine Eq.trans (loop_list (Q := fun g x => thenEnd E.P [] _ 0 (thenEv E _ _ _ _ _ (outOf 0 x)) = some (.int .i64 g, [])) s (indexStep p) (fun _ => -1)
    (fun i _ => { sl := [(0, .sl fl (s.map (Fact.enc fl))), (1, .clo F caps), (7, .int .i64 (s.length : Nat)), (8, .int .i64 (i : Nat))], bx := [], nx := 0, nt := 19 }) (fun _ _ => True) () ?_ ?_ (by omega) trivial ?_) ?_
  · intro b _
    simp -implicitDefEqProofs only [W2, ↓D2, ↓DC, QX, leaf_some, isNormal, Int.reduceToNat, id_eq, Int.reduceBEq, Int.reduceLE, Int.reduceLT, Nat.reduceAdd, Nat.reduceEqDiff, Nat.reduceLT, Nat.reduceLeDiff, Nat.reduceMul, Nat.reduceSub, reduceIte]
    repeat' (split <;> (rename_i h; (try simp -implicitDefEqProofs only [Bool.not_eq_true', Bool.not_eq_false', decide_eq_true_eq, decide_eq_false_iff_not] at h); (try simp -implicitDefEqProofs only [W2, ↓D2, ↓DC, QX, *, leaf_some, isNormal, Int.reduceToNat, id_eq, Int.reduceBEq, Int.reduceLE, Int.reduceLT, Nat.reduceAdd, Nat.reduceEqDiff, Nat.reduceLT, Nat.reduceLeDiff, Nat.reduceMul, Nat.reduceSub, reduceIte])))
  · intro pre c r b hs' _
    have hx := (at_row hs' hs).1; have hc := (at_row hs' hs).2.1; have hlt := (at_row hs' hs).2.2.1; have hw1 := (at_row hs' hs).2.2.2.1
    clear hs'
    have c2 := hF c hc
    simp -implicitDefEqProofs only [enc_Fact, List.cons_append, List.nil_append] at c2
    simp -implicitDefEqProofs only [W2, ↓D2, ↓DC, QX, enc_Fact, hx, hlt, hw1, c2, indexStep, hmdF, hLd, hR, hB, hM, keep_123_2, leaf_some, isNormal, Int.reduceToNat, id_eq, Int.reduceBEq, Int.reduceLE, Int.reduceLT, Nat.reduceAdd, Nat.reduceEqDiff, Nat.reduceLT, Nat.reduceLeDiff, Nat.reduceMul, Nat.reduceSub, reduceIte]
    repeat' (split <;> (rename_i h; (try simp -implicitDefEqProofs only [Bool.not_eq_true', Bool.not_eq_false', decide_eq_true_eq, decide_eq_false_iff_not] at h); (try simp -implicitDefEqProofs only [W2, ↓D2, ↓DC, QX, *, enc_Fact, hx, hlt, hw1, c2, indexStep, hmdF, hLd, hR, hB, hM, keep_123_2, leaf_some, isNormal, Int.reduceToNat, id_eq, Int.reduceBEq, Int.reduceLE, Int.reduceLT, Nat.reduceAdd, Nat.reduceEqDiff, Nat.reduceLT, Nat.reduceLeDiff, Nat.reduceMul, Nat.reduceSub, reduceIte])))
  · simp -implicitDefEqProofs only [firstRegion]; rw [keep_123_2]; simp -implicitDefEqProofs only [W2, ↓D2, ↓DC, hR, hB, hM, Int.reduceToNat, id_eq, Int.reduceBEq, Int.reduceLE, Int.reduceLT, Nat.reduceAdd, Nat.reduceEqDiff, Nat.reduceLT, Nat.reduceLeDiff, Nat.reduceMul, Nat.reduceSub, reduceIte]; first | done | rfl
  · rw [indexLoop]
theorem r_slices_IndexFunc_Cond {fl : Bool} (k : Nat) (s : List Cond) (hk : 281474976710656 + 1 ≤ k) (hs : s.length ≤ 140737488355328) (F : Nat) (caps : List AV) (hP : Plain caps) (p : Cond → Bool)
    (hF : ∀ x ∈ s, run E noExt (k - 1) F ([x.enc fl] ++ caps) [] = some (.bool (p x), [])) (hmdF : E.md F = [] := by rfl) :
    run E noExt k 138 [.sl fl (s.map (Cond.enc fl)), .clo F caps] [] = some (.int .i64 (indexBy p 0 s), []) := by
  obtain ⟨k, rfl⟩ : ∃ j, k = j + 1 := ⟨k - 1, by omega⟩
  rw [run_succ rfl rfl, body_eq (nt := 19) (fn := Go.Proofs.Tryz.f138) (by kernel_rfl) rfl rfl rfl rfl rfl rfl rfl rfl]
  simp -implicitDefEqProofs only [Nat.add_sub_cancel] at hF
  have hR := hP.rows; have hB := hP.boxes; have hM := hP.map; have hLd := hP.lend
  simp -implicitDefEqProofs only [W1, ↓D1, ↓DC, Go.Proofs.Tryz.f138, ifEv_bool, bne, hLd, Int.reduceToNat, id_eq, Int.reduceBEq, Int.reduceLE, Int.reduceLT, Nat.reduceAdd, Nat.reduceEqDiff, Nat.reduceLT, Nat.reduceLeDiff, Nat.reduceMul, Nat.reduceSub, reduceIte]
  rw [ev_loop]
  refine Eq.trans (loop_list (Q := fun g x => thenEnd E.P [] _ 0 (thenEv E _ _ _ _ _ (outOf 0 x)) = some (.int .i64 g, [])) s (indexStep p) (fun _ => -1)
    (fun i _ => { sl := [(0, .sl fl (s.map (Cond.enc fl))), (1, .clo F caps), (7, .int .i64 (s.length : Nat)), (8, .int .i64 (i : Nat))], bx := [], nx := 0, nt := 19 }) (fun _ _ => True) () ?_ ?_ (by omega) trivial ?_) ?_
  · intro b _
    simp -implicitDefEqProofs only [W2, ↓D2, ↓DC, QX, leaf_some, isNormal, Int.reduceToNat, id_eq, Int.reduceBEq, Int.reduceLE, Int.reduceLT, Nat.reduceAdd, Nat.reduceEqDiff, Nat.reduceLT, Nat.reduceLeDiff, Nat.reduceMul, Nat.reduceSub, reduceIte]
    repeat' (split <;> (rename_i h; (try simp -implicitDefEqProofs only [Bool.not_eq_true', Bool.not_eq_false', decide_eq_true_eq, decide_eq_false_iff_not] at h); (try simp -implicitDefEqProofs only [W2, ↓D2, ↓DC, QX, *, leaf_some, isNormal, Int.reduceToNat, id_eq, Int.reduceBEq, Int.reduceLE, Int.reduceLT, Nat.reduceAdd, Nat.reduceEqDiff, Nat.reduceLT, Nat.reduceLeDiff, Nat.reduceMul, Nat.reduceSub, reduceIte])))
  · intro pre c r b hs' _
    have hx := (at_row hs' hs).1; have hc := (at_row hs' hs).2.1; have hlt := (at_row hs' hs).2.2.1; have hw1 := (at_row hs' hs).2.2.2.1
    clear hs'
    have c2 := hF c hc
    simp -implicitDefEqProofs only [enc_Cond, List.cons_append, List.nil_append] at c2
    simp -implicitDefEqProofs only [W2, ↓D2, ↓DC, QX, enc_Cond, hx, hlt, hw1, c2, indexStep, hmdF, hLd, hR, hB, hM, keep_138_2, leaf_some, isNormal, Int.reduceToNat, id_eq, Int.reduceBEq, Int.reduceLE, Int.reduceLT, Nat.reduceAdd, Nat.reduceEqDiff, Nat.reduceLT, Nat.reduceLeDiff, Nat.reduceMul, Nat.reduceSub, reduceIte]
    repeat' (split <;> (rename_i h; (try simp -implicitDefEqProofs only [Bool.not_eq_true', Bool.not_eq_false', decide_eq_true_eq, decide_eq_false_iff_not] at h); (try simp -implicitDefEqProofs only [W2, ↓D2, ↓DC, QX, *, enc_Cond, hx, hlt, hw1, c2, indexStep, hmdF, hLd, hR, hB, hM, keep_138_2, leaf_some, isNormal, Int.reduceToNat, id_eq, Int.reduceBEq, Int.reduceLE, Int.reduceLT, Nat.reduceAdd, Nat.reduceEqDiff, Nat.reduceLT, Nat.reduceLeDiff, Nat.reduceMul, Nat.reduceSub, reduceIte])))
  · simp -implicitDefEqProofs only [firstRegion]; rw [keep_138_2]; simp -implicitDefEqProofs only [W2, ↓D2, ↓DC, hR, hB, hM, Int.reduceToNat, id_eq, Int.reduceBEq, Int.reduceLE, Int.reduceLT, Nat.reduceAdd, Nat.reduceEqDiff, Nat.reduceLT, Nat.reduceLeDiff, Nat.reduceMul, Nat.reduceSub, reduceIte]; first | done | rfl
  · rw [indexLoop]
theorem r_slices_ContainsFunc_Cond {fl : Bool} (k : Nat) (s : List Cond) (hk : 281474976710656 + 2 ≤ k) (hs : s.length ≤ 140737488355328) (F : Nat) (caps : List AV) (hP : Plain caps) (p : Cond → Bool)
    (hF : ∀ x ∈ s, run E noExt (k - 2) F ([x.enc fl] ++ caps) [] = some (.bool (p x), [])) (hmdF : E.md F = [] := by rfl) :
    run E noExt k 120 [.sl fl (s.map (Cond.enc fl)), .clo F caps] [] = some (.bool (s.any p), []) := by
  have c2 := r_slices_IndexFunc_Cond (fl := fl) (k - 1) s (by omega) hs F caps hP p (by rw [show k - 1 - 1 = k - 2 by omega]; exact hF) hmdF
  have hR := hP.rows; have hB := hP.boxes; have hM := hP.map; have hLd := hP.lend
  clear hF
  obtain ⟨k, rfl⟩ : ∃ j, k = j + 1 := ⟨k - 1, by omega⟩
  rw [run_succ rfl rfl, body_eq (nt := 9) (fn := Go.Proofs.Tryz.f120) (by kernel_rfl) rfl rfl rfl rfl rfl rfl rfl rfl]
  simp -implicitDefEqProofs only [Nat.add_sub_cancel] at c2
  simp -implicitDefEqProofs only [W1, ↓D1, ↓DC, Go.Proofs.Tryz.f120, c2, hLd, Int.reduceToNat, id_eq, Int.reduceBEq, Int.reduceLE, Int.reduceLT, Nat.reduceAdd, Nat.reduceEqDiff, Nat.reduceLT, Nat.reduceLeDiff, Nat.reduceMul, Nat.reduceSub, reduceIte]
  rw [indexBy_nonneg]
theorem r_slices_IndexFunc_Rule {fl : Bool} (k : Nat) (s : List Rule) (hk : 281474976710656 + 1 ≤ k) (hs : s.length ≤ 140737488355328) (F : Nat) (caps : List AV) (hP : Plain caps) (p : Rule → Bool)
    (hF : ∀ x ∈ s, run E noExt (k - 1) F ([x.enc fl] ++ caps) [] = some (.bool (p x), [])) (hmdF : E.md F = [] := by rfl) :
    run E noExt k 75 [.sl fl (s.map (Rule.enc fl)), .clo F caps] [] = some (.int .i64 (indexBy p 0 s), []) := by
  obtain ⟨k, rfl⟩ : ∃ j, k = j + 1 := ⟨k - 1, by omega⟩
  rw [run_succ rfl rfl, body_eq (nt := 19) (fn := Go.Proofs.Tryz.f75) (by kernel_rfl) rfl rfl rfl rfl rfl rfl rfl rfl]
  simp -implicitDefEqProofs only [Nat.add_sub_cancel] at hF
  have hR := hP.rows; have hB := hP.boxes; have hM := hP.map; have hLd := hP.lend
  simp -implicitDefEqProofs only [W1, ↓D1, ↓DC, Go.Proofs.Tryz.f75, ifEv_bool, bne, hLd, Int.reduceToNat, id_eq, Int.reduceBEq, Int.reduceLE, Int.reduceLT, Nat.reduceAdd, Nat.reduceEqDiff, Nat.reduceLT, Nat.reduceLeDiff, Nat.reduceMul, Nat.reduceSub, reduceIte]
  rw [ev_loop]
  refine Eq.trans (loop_list (Q := fun g x => thenEnd E.P [] _ 0 (thenEv E _ _ _ _ _ (outOf 0 x)) = some (.int .i64 g, [])) s (indexStep p) (fun _ => -1)
    (fun i _ => { sl := [(0, .sl fl (s.map (Rule.enc fl))), (1, .clo F caps), (7, .int .i64 (s.length : Nat)), (8, .int .i64 (i : Nat))], bx := [], nx := 0, nt := 19 }) (fun _ _ => True) () ?_ ?_ (by omega) trivial ?_) ?_
  · intro b _
    simp -implicitDefEqProofs only [W2, ↓D2, ↓DC, QX, leaf_some, isNormal, Int.reduceToNat, id_eq, Int.reduceBEq, Int.reduceLE, Int.reduceLT, Nat.reduceAdd, Nat.reduceEqDiff, Nat.reduceLT, Nat.reduceLeDiff, Nat.reduceMul, Nat.reduceSub, reduceIte]
    repeat' (split <;> (rename_i h; (try simp -implicitDefEqProofs only [Bool.not_eq_true', Bool.not_eq_false', decide_eq_true_eq, decide_eq_false_iff_not] at h); (try simp -implicitDefEqProofs only [W2, ↓D2, ↓DC, QX, *, leaf_some, isNormal, Int.reduceToNat, id_eq, Int.reduceBEq, Int.reduceLE, Int.reduceLT, Nat.reduceAdd, Nat.reduceEqDiff, Nat.reduceLT, Nat.reduceLeDiff, Nat.reduceMul, Nat.reduceSub, reduceIte])))
  · intro pre c r b hs' _
    have hx := (at_row hs' hs).1; have hc := (at_row hs' hs).2.1; have hlt := (at_row hs' hs).2.2.1; have hw1 := (at_row hs' hs).2.2.2.1
    clear hs'
    have c2 := hF c hc
    simp -implicitDefEqProofs only [enc_Cond, enc_Rule, List.cons_append, List.nil_append] at c2
    simp -implicitDefEqProofs only [W2, ↓D2, ↓DC, QX, enc_Cond, enc_Rule, hx, hlt, hw1, c2, indexStep, hmdF, hLd, hR, hB, hM, keep_75_2, leaf_some, isNormal, Int.reduceToNat, id_eq, Int.reduceBEq, Int.reduceLE, Int.reduceLT, Nat.reduceAdd, Nat.reduceEqDiff, Nat.reduceLT, Nat.reduceLeDiff, Nat.reduceMul, Nat.reduceSub, reduceIte]
    repeat' (split <;> (rename_i h; (try simp -implicitDefEqProofs only [Bool.not_eq_true', Bool.not_eq_false', decide_eq_true_eq, decide_eq_false_iff_not] at h); (try simp -implicitDefEqProofs only [W2, ↓D2, ↓DC, QX, *, enc_Cond, enc_Rule, hx, hlt, hw1, c2, indexStep, hmdF, hLd, hR, hB, hM, keep_75_2, leaf_some, isNormal, Int.reduceToNat, id_eq, Int.reduceBEq, Int.reduceLE, Int.reduceLT, Nat.reduceAdd, Nat.reduceEqDiff, Nat.reduceLT, Nat.reduceLeDiff, Nat.reduceMul, Nat.reduceSub, reduceIte])))
  · simp -implicitDefEqProofs only [firstRegion]; rw [keep_75_2]; simp -implicitDefEqProofs only [W2, ↓D2, ↓DC, hR, hB, hM, Int.reduceToNat, id_eq, Int.reduceBEq, Int.reduceLE, Int.reduceLT, Nat.reduceAdd, Nat.reduceEqDiff, Nat.reduceLT, Nat.reduceLeDiff, Nat.reduceMul, Nat.reduceSub, reduceIte]; first | done | rfl
  · rw [indexLoop]
theorem r_slices_ContainsFunc_Rule {fl : Bool} (k : Nat) (s : List Rule) (hk : 281474976710656 + 2 ≤ k) (hs : s.length ≤ 140737488355328) (F : Nat) (caps : List AV) (hP : Plain caps) (p : Rule → Bool)
    (hF : ∀ x ∈ s, run E noExt (k - 2) F ([x.enc fl] ++ caps) [] = some (.bool (p x), [])) (hmdF : E.md F = [] := by rfl) :
    run E noExt k 54 [.sl fl (s.map (Rule.enc fl)), .clo F caps] [] = some (.bool (s.any p), []) := by
  have c2 := r_slices_IndexFunc_Rule (fl := fl) (k - 1) s (by omega) hs F caps hP p (by rw [show k - 1 - 1 = k - 2 by omega]; exact hF) hmdF
  have hR := hP.rows; have hB := hP.boxes; have hM := hP.map; have hLd := hP.lend
  clear hF
  obtain ⟨k, rfl⟩ : ∃ j, k = j + 1 := ⟨k - 1, by omega⟩
  rw [run_succ rfl rfl, body_eq (nt := 9) (fn := Go.Proofs.Tryz.f54) (by kernel_rfl) rfl rfl rfl rfl rfl rfl rfl rfl]
  simp -implicitDefEqProofs only [Nat.add_sub_cancel] at c2
  simp -implicitDefEqProofs only [W1, ↓D1, ↓DC, Go.Proofs.Tryz.f54, c2, hLd, Int.reduceToNat, id_eq, Int.reduceBEq, Int.reduceLE, Int.reduceLT, Nat.reduceAdd, Nat.reduceEqDiff, Nat.reduceLT, Nat.reduceLeDiff, Nat.reduceMul, Nat.reduceSub, reduceIte]
  rw [indexBy_nonneg]
mutual
def Cond.valid : Cond → Bool
  | ⟨o, a, b, s⟩ => nodeOk o a b s.length && Cond.valids s
def Cond.valids : List Cond → Bool
  | [] => true
  | c :: r => c.valid && Cond.valids r
end
theorem valids_all (s : List Cond) : Cond.valids s = s.all Cond.valid := by
  induction s with
  | nil => rfl
  | cons c r ih => simp [Cond.valids, ih]
theorem Cond.valid_eq (c : Cond) : c.valid = (nodeOk c.op c.a c.b c.args.length && c.args.all Cond.valid) := by
  cases c
  simp -implicitDefEqProofs only [Cond.valid, valids_all]
def isCond (x : Cond) : Bool := decide (((x.w + 1 : Nat) : Int) ≤ 15) && x.valid
def sizeStep (_ : Nat) (c : Cond) (m : Int) : Sum Int Int := .inr (m + ((c.w + 1 : Nat) : Int))
theorem sizeLoop : ∀ (s : List Cond) (i : Nat) (m : Int), loopL sizeStep id i s m = m + (wl Cond.w s : Nat)
  | [], i, m => by simp [loopL, wl]
  | c :: r, i, m => by
    simp -implicitDefEqProofs only [loopL, sizeStep]
    rw [sizeLoop r]
    simp -implicitDefEqProofs only [wl]; omega
theorem r_impl_SizeOf0 {fl : Bool} (x : Cond) : ∀ (k : Nat), 281474976710656 + 4 * x.w + 1 ≤ k → x.w ≤ 1099511627776 → run E noExt k 99 [x.enc fl] [] = some (.int .i64 ((x.w + 1 : Nat) : Int), []) := by
  induction x using Cond.induct with
  | h x ih =>
    intro k hk hx
    rw [x.w_eq] at hk hx ⊢
    have hs1 := Nat.le_trans (wl_length _ x.args) hx
    have hs : x.args.length ≤ 140737488355328 := by omega
    have c1 : ∀ c ∈ x.args, run E noExt (k - 1) 99 [c.enc fl] [] = some (.int .i64 ((c.w + 1 : Nat) : Int), []) := fun c hc => ih c hc _ (by have := wl_mem (w := Cond.w) hc; omega) (by have := wl_mem (w := Cond.w) hc; omega)
    clear ih
    obtain ⟨k, rfl⟩ : ∃ j, k = j + 1 := ⟨k - 1, by omega⟩
    rw [run_succ rfl rfl, body_eq (nt := 19) (fn := Go.Proofs.Tryz.f99) (by kernel_rfl) rfl rfl rfl rfl rfl rfl rfl rfl]
    simp -implicitDefEqProofs only [Nat.add_sub_cancel] at c1
    simp -implicitDefEqProofs only [W1, ↓D1, ↓DC, Go.Proofs.Tryz.f99, enc_Cond, Int.reduceToNat, id_eq, Int.reduceBEq, Int.reduceLE, Int.reduceLT, Nat.reduceAdd, Nat.reduceEqDiff, Nat.reduceLT, Nat.reduceLeDiff, Nat.reduceMul, Nat.reduceSub, reduceIte]
    rw [ev_loop]
    refine Eq.trans (loop_list (Q := fun g x => thenEnd E.P [] _ 0 (thenEv E _ _ _ _ _ (outOf 0 x)) = some (.int .i64 g, [])) (x.args) (sizeStep) (id)
      (fun i b => { sl := [(3, .int .i64 b), (7, .sl fl (x.args.map (Cond.enc fl))), (8, .int .i64 (x.args.length : Nat)), (9, .int .i64 (i : Nat))], bx := [], nx := 0, nt := 19 }) (fun i m => m = 1 + (wl Cond.w (x.args.take i) : Nat)) (1) ?_ ?_ (by first | omega | (simp; omega)) (by simp [wl]) ?_) ?_
    · intro b hb
      simp -implicitDefEqProofs only [W2, ↓D2, ↓DC, QX, leaf_some, isNormal, Int.reduceToNat, id_eq, Int.reduceBEq, Int.reduceLE, Int.reduceLT, Nat.reduceAdd, Nat.reduceEqDiff, Nat.reduceLT, Nat.reduceLeDiff, Nat.reduceMul, Nat.reduceSub, reduceIte]
      repeat' (split <;> (rename_i h; (try simp -implicitDefEqProofs only [Bool.not_eq_true', Bool.not_eq_false', decide_eq_true_eq, decide_eq_false_iff_not] at h); (try simp -implicitDefEqProofs only [W2, ↓D2, ↓DC, QX, *, leaf_some, isNormal, Int.reduceToNat, id_eq, Int.reduceBEq, Int.reduceLE, Int.reduceLT, Nat.reduceAdd, Nat.reduceEqDiff, Nat.reduceLT, Nat.reduceLeDiff, Nat.reduceMul, Nat.reduceSub, reduceIte])))
    · intro pre c r b hs' hb
      have hx := (at_row hs' hs).1; have hc := (at_row hs' hs).2.1; have hlt := (at_row hs' hs).2.2.1; have hw1 := (at_row hs' hs).2.2.2.1; have hl9 := (at_row hs' hs).2.2.2.2
      have hb2 : b + ((c.w + 1 : Nat) : Int) = 1 + (wl Cond.w (x.args.take (pre.length + 1)) : Nat) := by
        rw [hb, (take_row hs').1, (take_row hs').2, wl_append]
        simp -implicitDefEqProofs only [wl]; omega
      have hw2 : IntKind.i64.wrap (b + ((c.w + 1 : Nat) : Int)) = b + ((c.w + 1 : Nat) : Int) := by
        have e3 : wl Cond.w (x.args.take (pre.length + 1)) + wl Cond.w (x.args.drop (pre.length + 1)) = wl Cond.w x.args := by rw [← wl_append, List.take_append_drop]
        exact IntWalk.i64_in _ (by omega)
      clear hs'
      have c2 := c1 c hc
      simp -implicitDefEqProofs only [enc_Cond] at c2
      simp -implicitDefEqProofs only [W2, ↓D2, ↓DC, QX, enc_Cond, hx, hlt, hw1, c2, hw2, sizeStep, keep_99_3, leaf_some, isNormal, Int.reduceToNat, id_eq, Int.reduceBEq, Int.reduceLE, Int.reduceLT, Nat.reduceAdd, Nat.reduceEqDiff, Nat.reduceLT, Nat.reduceLeDiff, Nat.reduceMul, Nat.reduceSub, reduceIte]
      repeat' (split <;> (rename_i h; (try simp -implicitDefEqProofs only [Bool.not_eq_true', Bool.not_eq_false', decide_eq_true_eq, decide_eq_false_iff_not] at h); (try simp -implicitDefEqProofs only [W2, ↓D2, ↓DC, QX, *, enc_Cond, hx, hlt, hw1, c2, hw2, sizeStep, keep_99_3, leaf_some, isNormal, Int.reduceToNat, id_eq, Int.reduceBEq, Int.reduceLE, Int.reduceLT, Nat.reduceAdd, Nat.reduceEqDiff, Nat.reduceLT, Nat.reduceLeDiff, Nat.reduceMul, Nat.reduceSub, reduceIte])))
      exact hb2
    · simp -implicitDefEqProofs only [firstRegion]; rw [keep_99_3]; simp -implicitDefEqProofs only [W2, ↓D2, ↓DC, Int.reduceToNat, id_eq, Int.reduceBEq, Int.reduceLE, Int.reduceLT, Nat.reduceAdd, Nat.reduceEqDiff, Nat.reduceLT, Nat.reduceLeDiff, Nat.reduceMul, Nat.reduceSub, reduceIte]; first | done | rfl
    · rw [sizeLoop]
      congr 3
      omega
theorem r_impl_areNodes0 {fl : Bool} (x : Cond) : ∀ (k : Nat), 281474976710656 + 4 * x.w + 5 ≤ k → x.w ≤ 1099511627776 → run E noExt k 100 [x.enc fl] [] = some (.bool x.valid, []) := by
  induction x using Cond.induct with
  | h x ih =>
    intro k hk hx
    rw [x.w_eq] at hk hx
    rw [x.valid_eq]
    have hs1 := Nat.le_trans (wl_length _ x.args) hx
    have c1 : ∀ c ∈ x.args, run E noExt (k - 4) 100 [c.enc fl] [] = some (.bool c.valid, []) := fun c hc => ih c hc _ (by have := wl_mem (w := Cond.w) hc; omega) (by have := wl_mem (w := Cond.w) hc; omega)
    clear ih
    have c3 : ∀ c ∈ x.args, run E noExt (k - 3) 121 [c.enc fl] [] = some (.bool (!c.valid), []) := by
      intro c hc
      have c2 := c1 c hc
      rw [show k - 3 = (k - 4) + 1 by omega]
      rw [run_succ rfl rfl, body_eq (nt := 6) (fn := Go.Proofs.Tryz.f121) (by kernel_rfl) rfl rfl rfl rfl rfl rfl rfl rfl]
      simp -implicitDefEqProofs only [enc_Cond] at c2 ⊢
      simp -implicitDefEqProofs only [W1, ↓D1, ↓DC, QX, Go.Proofs.Tryz.f121, c2, Int.reduceToNat, id_eq, Int.reduceBEq, Int.reduceLE, Int.reduceLT, Nat.reduceAdd, Nat.reduceEqDiff, Nat.reduceLT, Nat.reduceLeDiff, Nat.reduceMul, Nat.reduceSub, reduceIte]
      repeat' (split <;> (rename_i h; (try simp -implicitDefEqProofs only [Bool.not_eq_true', Bool.not_eq_false', decide_eq_true_eq, decide_eq_false_iff_not] at h); (try simp -implicitDefEqProofs only [W1, ↓D1, ↓DC, QX, *, c2, Int.reduceToNat, id_eq, Int.reduceBEq, Int.reduceLE, Int.reduceLT, Nat.reduceAdd, Nat.reduceEqDiff, Nat.reduceLT, Nat.reduceLeDiff, Nat.reduceMul, Nat.reduceSub, reduceIte])))
    have c0 := r_impl_isNode (k - 1) (by omega) x.op x.a x.b fl (x.args.map (Cond.enc fl))
    have c4 := r_slices_ContainsFunc_Cond (fl := fl) (k - 1) x.args (by omega) (by omega) 121 [] plain_nil (fun c => !c.valid) (by rw [show k - 1 - 2 = k - 3 by omega]; exact c3)
    obtain ⟨k, rfl⟩ : ∃ j, k = j + 1 := ⟨k - 1, by omega⟩
    rw [run_succ rfl rfl, body_eq (nt := 11) (fn := Go.Proofs.Tryz.f100) (by kernel_rfl) rfl rfl rfl rfl rfl rfl rfl rfl]
    simp -implicitDefEqProofs only [Nat.add_sub_cancel, List.length_map] at c4 c0
    have ha : x.args.all Cond.valid = !(x.args.any fun c => !c.valid) := List.all_eq_not_any_not
    simp -implicitDefEqProofs only [W1, ↓D1, ↓DC, QX, Go.Proofs.Tryz.f100, enc_Cond, c0, c4, ha, Int.reduceToNat, id_eq, Int.reduceBEq, Int.reduceLE, Int.reduceLT, Nat.reduceAdd, Nat.reduceEqDiff, Nat.reduceLT, Nat.reduceLeDiff, Nat.reduceMul, Nat.reduceSub, reduceIte]
    repeat' (split <;> (rename_i h; (try simp -implicitDefEqProofs only [Bool.not_eq_true', Bool.not_eq_false', decide_eq_true_eq, decide_eq_false_iff_not] at h); (try simp -implicitDefEqProofs only [W1, ↓D1, ↓DC, QX, *, enc_Cond, c0, c4, ha, Int.reduceToNat, id_eq, Int.reduceBEq, Int.reduceLE, Int.reduceLT, Nat.reduceAdd, Nat.reduceEqDiff, Nat.reduceLT, Nat.reduceLeDiff, Nat.reduceMul, Nat.reduceSub, reduceIte])))
theorem r_impl_IsCond {fl : Bool} (k : Nat) (hk : 290271069732864 + 6 ≤ k) (x : Cond) (hx : x.w ≤ 1099511627776) : run E noExt k 76 [x.enc fl] [] = some (.bool (isCond x), []) := by
  have c1 := r_impl_SizeOf0 (fl := fl) x (k - 1) (by omega) hx
  have c2 := r_impl_areNodes0 (fl := fl) x (k - 1) (by omega) hx
  obtain ⟨k, rfl⟩ : ∃ j, k = j + 1 := ⟨k - 1, by omega⟩
  rw [run_succ rfl rfl, body_eq (nt := 10) (fn := Go.Proofs.Tryz.f76) (by kernel_rfl) rfl rfl rfl rfl rfl rfl rfl rfl]
  simp -implicitDefEqProofs only [Nat.add_sub_cancel, enc_Cond] at c1 c2
  simp -implicitDefEqProofs only [W1, ↓D1, ↓DC, Go.Proofs.Tryz.f76, enc_Cond, c1, c2, isCond, ifEv_bool, gate_bool, pick_bool, Int.reduceToNat, id_eq, Int.reduceBEq, Int.reduceLE, Int.reduceLT, Nat.reduceAdd, Nat.reduceEqDiff, Nat.reduceLT, Nat.reduceLeDiff, Nat.reduceMul, Nat.reduceSub, reduceIte]
  by_cases hq : ((x.w + 1 : Nat) : Int) ≤ 15 <;> simp -implicitDefEqProofs only [↓DC, QS, ZRS, ↓ZDS, hq, c2, SS, one_ne2, num_ne2, TIS, MDS, Nat.reduceAdd, Nat.reduceEqDiff, Nat.reduceLT, Nat.reduceLeDiff, Nat.reduceMul, Nat.reduceSub, reduceIte]
def isName (n : Int) : Bool := inR n 10 49
theorem r_spec_IsName (k : Nat) (hk : 281474976710656 + 2 ≤ k) (n : Int) : run E noExt k 69 [.int .i64 n] [] = some (.bool (isName n), []) := by
  obtain ⟨k, rfl⟩ : ∃ j, k = j + 1 := ⟨k - 1, by omega⟩
  rw [run_succ rfl rfl, body_eq (nt := 5) (fn := Go.Proofs.Tryz.f69) (by kernel_rfl) rfl rfl rfl rfl rfl rfl rfl rfl]
  have c_spec_l1In := r_spec_l1In k (by omega)
  simp -implicitDefEqProofs only [W1, ↓D1, ↓DC, QX, Go.Proofs.Tryz.f69, c_spec_l1In, Int.reduceToNat, id_eq, Int.reduceBEq, Int.reduceLE, Int.reduceLT, Nat.reduceAdd, Nat.reduceEqDiff, Nat.reduceLT, Nat.reduceLeDiff, Nat.reduceMul, Nat.reduceSub, reduceIte]
  repeat' (split <;> (rename_i h; (try simp -implicitDefEqProofs only [Bool.not_eq_true', Bool.not_eq_false', decide_eq_true_eq, decide_eq_false_iff_not] at h); (try simp -implicitDefEqProofs only [W1, ↓D1, ↓DC, QX, *, c_spec_l1In, Int.reduceToNat, id_eq, Int.reduceBEq, Int.reduceLE, Int.reduceLT, Nat.reduceAdd, Nat.reduceEqDiff, Nat.reduceLT, Nat.reduceLeDiff, Nat.reduceMul, Nat.reduceSub, reduceIte])))
  rfl
theorem r_impl_IsName (k : Nat) (hk : 281474976710656 + 2 ≤ k) (n : Int) : run E noExt k 73 [.int .i64 n] [] = some (.bool (isName n), []) := by
  obtain ⟨k, rfl⟩ : ∃ j, k = j + 1 := ⟨k - 1, by omega⟩
  rw [run_succ rfl rfl, body_eq (nt := 5) (fn := Go.Proofs.Tryz.f73) (by kernel_rfl) rfl rfl rfl rfl rfl rfl rfl rfl]
  have c_impl_InRange := r_impl_InRange k (by omega)
  simp -implicitDefEqProofs only [W1, ↓D1, ↓DC, QX, Go.Proofs.Tryz.f73, c_impl_InRange, Int.reduceToNat, id_eq, Int.reduceBEq, Int.reduceLE, Int.reduceLT, Nat.reduceAdd, Nat.reduceEqDiff, Nat.reduceLT, Nat.reduceLeDiff, Nat.reduceMul, Nat.reduceSub, reduceIte]
  repeat' (split <;> (rename_i h; (try simp -implicitDefEqProofs only [Bool.not_eq_true', Bool.not_eq_false', decide_eq_true_eq, decide_eq_false_iff_not] at h); (try simp -implicitDefEqProofs only [W1, ↓D1, ↓DC, QX, *, c_impl_InRange, Int.reduceToNat, id_eq, Int.reduceBEq, Int.reduceLE, Int.reduceLT, Nat.reduceAdd, Nat.reduceEqDiff, Nat.reduceLT, Nat.reduceLeDiff, Nat.reduceMul, Nat.reduceSub, reduceIte])))
  rfl
def kindOf (n : Int) : Int := if isName n = true then IntKind.i64.wrap (n.tdiv 10) else 0
def hasKind (n k : Int) : Bool := isName n && (IntKind.i64.wrap (n.tdiv 10) == k)
theorem r_impl_KindOf (k : Nat) (hk : 281474976710656 + 3 ≤ k) (n : Int) : run E noExt k 74 [.int .i64 n] [] = some (.int .i64 (kindOf n), []) := by
  obtain ⟨k, rfl⟩ : ∃ j, k = j + 1 := ⟨k - 1, by omega⟩
  rw [run_succ rfl rfl, body_eq (nt := 8) (fn := Go.Proofs.Tryz.f74) (by kernel_rfl) rfl rfl rfl rfl rfl rfl rfl rfl]
  have c_impl_IsName := r_impl_IsName k (by omega)
  simp -implicitDefEqProofs only [W1, ↓D1, ↓DC, QX, Go.Proofs.Tryz.f74, c_impl_IsName, Int.reduceToNat, id_eq, Int.reduceBEq, Int.reduceLE, Int.reduceLT, Nat.reduceAdd, Nat.reduceEqDiff, Nat.reduceLT, Nat.reduceLeDiff, Nat.reduceMul, Nat.reduceSub, reduceIte]
  repeat' (split <;> (rename_i h; (try simp -implicitDefEqProofs only [Bool.not_eq_true', Bool.not_eq_false', decide_eq_true_eq, decide_eq_false_iff_not] at h); (try simp -implicitDefEqProofs only [W1, ↓D1, ↓DC, QX, *, c_impl_IsName, Int.reduceToNat, id_eq, Int.reduceBEq, Int.reduceLE, Int.reduceLT, Nat.reduceAdd, Nat.reduceEqDiff, Nat.reduceLT, Nat.reduceLeDiff, Nat.reduceMul, Nat.reduceSub, reduceIte])))
  all_goals simp -implicitDefEqProofs only [kindOf, *, reduceIte, Bool.false_eq_true]
theorem r_spec_HasKind (k : Nat) (hk : 281474976710656 + 3 ≤ k) (n j : Int) : run E noExt k 44 [.int .i64 n, .int .i64 j] [] = some (.bool (hasKind n j), []) := by
  obtain ⟨k, rfl⟩ : ∃ j, k = j + 1 := ⟨k - 1, by omega⟩
  rw [run_succ rfl rfl, body_eq (nt := 13) (fn := Go.Proofs.Tryz.f44) (by kernel_rfl) rfl rfl rfl rfl rfl rfl rfl rfl]
  have c_spec_IsName := r_spec_IsName k (by omega)
  simp -implicitDefEqProofs only [W1, ↓D1, ↓DC, QX, Go.Proofs.Tryz.f44, c_spec_IsName, Int.reduceToNat, id_eq, Int.reduceBEq, Int.reduceLE, Int.reduceLT, Nat.reduceAdd, Nat.reduceEqDiff, Nat.reduceLT, Nat.reduceLeDiff, Nat.reduceMul, Nat.reduceSub, reduceIte]
  repeat' (split <;> (rename_i h; (try simp -implicitDefEqProofs only [Bool.not_eq_true', Bool.not_eq_false', decide_eq_true_eq, decide_eq_false_iff_not] at h); (try simp -implicitDefEqProofs only [W1, ↓D1, ↓DC, QX, *, c_spec_IsName, Int.reduceToNat, id_eq, Int.reduceBEq, Int.reduceLE, Int.reduceLT, Nat.reduceAdd, Nat.reduceEqDiff, Nat.reduceLT, Nat.reduceLeDiff, Nat.reduceMul, Nat.reduceSub, reduceIte])))
  all_goals simp -implicitDefEqProofs only [hasKind, *, Bool.true_and, Bool.false_and]
theorem r_impl_HasKind (k : Nat) (hk : 281474976710656 + 4 ≤ k) (n j : Int) : run E noExt k 51 [.int .i64 n, .int .i64 j] [] = some (.bool (hasKind n j), []) := by
  obtain ⟨k, rfl⟩ : ∃ j, k = j + 1 := ⟨k - 1, by omega⟩
  rw [run_succ rfl rfl, body_eq (nt := 13) (fn := Go.Proofs.Tryz.f51) (by kernel_rfl) rfl rfl rfl rfl rfl rfl rfl rfl]
  have c_impl_IsName := r_impl_IsName k (by omega)
  have c_impl_KindOf := r_impl_KindOf k (by omega)
  simp -implicitDefEqProofs only [W1, ↓D1, ↓DC, QX, Go.Proofs.Tryz.f51, c_impl_IsName, c_impl_KindOf, Int.reduceToNat, id_eq, Int.reduceBEq, Int.reduceLE, Int.reduceLT, Nat.reduceAdd, Nat.reduceEqDiff, Nat.reduceLT, Nat.reduceLeDiff, Nat.reduceMul, Nat.reduceSub, reduceIte]
  repeat' (split <;> (rename_i h; (try simp -implicitDefEqProofs only [Bool.not_eq_true', Bool.not_eq_false', decide_eq_true_eq, decide_eq_false_iff_not] at h); (try simp -implicitDefEqProofs only [W1, ↓D1, ↓DC, QX, *, c_impl_IsName, c_impl_KindOf, Int.reduceToNat, id_eq, Int.reduceBEq, Int.reduceLE, Int.reduceLT, Nat.reduceAdd, Nat.reduceEqDiff, Nat.reduceLT, Nat.reduceLeDiff, Nat.reduceMul, Nat.reduceSub, reduceIte])))
  all_goals simp -implicitDefEqProofs only [hasKind, kindOf, *, Bool.true_and, Bool.false_and, reduceIte, Bool.false_eq_true]
def isRule (r : Rule) : Bool := (inR r.effect 0 1 && inR r.action (-1) 5) && ((r.object == -1) || hasKind r.object 4) && isCond r.cond
theorem r_impl_IsRule {fl : Bool} (k : Nat) (hk : 290271069732864 + 7 ≤ k) (x : Rule) (hx : x.w ≤ 1099511627776) : run E noExt k 56 [x.enc fl] [] = some (.bool (isRule x), []) := by
  have c1 := r_impl_IsCond (fl := fl) (k - 1) (by omega) x.cond hx
  obtain ⟨k, rfl⟩ : ∃ j, k = j + 1 := ⟨k - 1, by omega⟩
  rw [run_succ rfl rfl, body_eq (nt := 26) (fn := Go.Proofs.Tryz.f56) (by kernel_rfl) rfl rfl rfl rfl rfl rfl rfl rfl]
  simp -implicitDefEqProofs only [Nat.add_sub_cancel, enc_Cond] at c1
  have c_impl_HasKind := r_impl_HasKind k (by omega)
  have c_impl_InRange := r_impl_InRange k (by omega)
  simp -implicitDefEqProofs only [W1, ↓D1, ↓DC, QX, Go.Proofs.Tryz.f56, c_impl_HasKind, c_impl_InRange, enc_Rule, c1, Int.reduceToNat, id_eq, Int.reduceBEq, Int.reduceLE, Int.reduceLT, Nat.reduceAdd, Nat.reduceEqDiff, Nat.reduceLT, Nat.reduceLeDiff, Nat.reduceMul, Nat.reduceSub, reduceIte]
  repeat' (split <;> (rename_i h; (try simp -implicitDefEqProofs only [Bool.not_eq_true', Bool.not_eq_false', decide_eq_true_eq, decide_eq_false_iff_not] at h); (try simp -implicitDefEqProofs only [W1, ↓D1, ↓DC, QX, *, c_impl_HasKind, c_impl_InRange, enc_Rule, c1, Int.reduceToNat, id_eq, Int.reduceBEq, Int.reduceLE, Int.reduceLT, Nat.reduceAdd, Nat.reduceEqDiff, Nat.reduceLT, Nat.reduceLeDiff, Nat.reduceMul, Nat.reduceSub, reduceIte])))
  all_goals simp -implicitDefEqProofs only [isRule, *, Bool.true_and, Bool.false_and, Bool.and_true, Bool.and_false, Bool.or_true, Bool.true_or, Bool.false_or]
def isPolicy (p : Policy) : Bool := (inR p.version 0 999 && decide ((p.rules.length : Int) ≤ 8)) && p.rules.all isRule
theorem r_impl_IsPolicy {fl : Bool} (k : Nat) (hk : 290271069732864 + 12 ≤ k) (x : Policy) (hx : x.w ≤ 1099511627776) : run E noExt k 32 [x.enc fl] [] = some (.bool (isPolicy x), []) := by
  unfold Policy.w at hx
  have hs1 := Nat.le_trans (wl_length _ x.rules) hx
  have c3 : ∀ c ∈ x.rules, run E noExt (k - 3) 55 [c.enc fl] [] = some (.bool (!isRule c), []) := by
    intro c hc
    have c2 := r_impl_IsRule (fl := fl) (k - 4) (by omega) c (by have := wl_mem (w := Rule.w) hc; omega)
    rw [show k - 3 = (k - 4) + 1 by omega]
    rw [run_succ rfl rfl, body_eq (nt := 6) (fn := Go.Proofs.Tryz.f55) (by kernel_rfl) rfl rfl rfl rfl rfl rfl rfl rfl]
    simp -implicitDefEqProofs only [enc_Rule] at c2 ⊢
    simp -implicitDefEqProofs only [W1, ↓D1, ↓DC, QX, Go.Proofs.Tryz.f55, c2, Int.reduceToNat, id_eq, Int.reduceBEq, Int.reduceLE, Int.reduceLT, Nat.reduceAdd, Nat.reduceEqDiff, Nat.reduceLT, Nat.reduceLeDiff, Nat.reduceMul, Nat.reduceSub, reduceIte]
    repeat' (split <;> (rename_i h; (try simp -implicitDefEqProofs only [Bool.not_eq_true', Bool.not_eq_false', decide_eq_true_eq, decide_eq_false_iff_not] at h); (try simp -implicitDefEqProofs only [W1, ↓D1, ↓DC, QX, *, c2, Int.reduceToNat, id_eq, Int.reduceBEq, Int.reduceLE, Int.reduceLT, Nat.reduceAdd, Nat.reduceEqDiff, Nat.reduceLT, Nat.reduceLeDiff, Nat.reduceMul, Nat.reduceSub, reduceIte])))
  have c4 := r_slices_ContainsFunc_Rule (fl := fl) (k - 1) x.rules (by omega) (by omega) 55 [] plain_nil (fun c => !isRule c) (by rw [show k - 1 - 2 = k - 3 by omega]; exact c3)
  have c0 := r_impl_InRange (k - 1) (by omega)
  obtain ⟨k, rfl⟩ : ∃ j, k = j + 1 := ⟨k - 1, by omega⟩
  rw [run_succ rfl rfl, body_eq (nt := 18) (fn := Go.Proofs.Tryz.f32) (by kernel_rfl) rfl rfl rfl rfl rfl rfl rfl rfl]
  simp -implicitDefEqProofs only [Nat.add_sub_cancel] at c4 c0
  have ha : x.rules.all isRule = !(x.rules.any fun c => !isRule c) := List.all_eq_not_any_not
  simp -implicitDefEqProofs only [W1, ↓D1, ↓DC, QX, Go.Proofs.Tryz.f32, enc_Policy, c0, c4, ha, isPolicy, Int.reduceToNat, id_eq, Int.reduceBEq, Int.reduceLE, Int.reduceLT, Nat.reduceAdd, Nat.reduceEqDiff, Nat.reduceLT, Nat.reduceLeDiff, Nat.reduceMul, Nat.reduceSub, reduceIte]
  repeat' (split <;> (rename_i h; (try simp -implicitDefEqProofs only [Bool.not_eq_true', Bool.not_eq_false', decide_eq_true_eq, decide_eq_false_iff_not] at h); (try simp -implicitDefEqProofs only [W1, ↓D1, ↓DC, QX, *, enc_Policy, c0, c4, ha, isPolicy, Int.reduceToNat, id_eq, Int.reduceBEq, Int.reduceLE, Int.reduceLT, Nat.reduceAdd, Nat.reduceEqDiff, Nat.reduceLT, Nat.reduceLeDiff, Nat.reduceMul, Nat.reduceSub, reduceIte])))
end Go.Proofs.YtaojmienjikfbaaGreatDoor.Flat
