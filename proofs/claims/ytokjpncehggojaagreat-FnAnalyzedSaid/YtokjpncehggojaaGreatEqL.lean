/-
Functions on whole numbers: what they compute.
-/
import Derived.Test.YtokjpncehggojaaGreatFlatCF
import Derived.Test.YtokjpncehggojaaGreatEqD
set_option linter.unusedVariables false
set_option linter.unusedSimpArgs false
namespace Go.Proofs.YtokjpncehggojaaGreat.Flat
def inR (n a b : Int) : Bool := decide (a ≤ n) && decide (n ≤ b)
theorem r_spec_l1In (k : Nat) (hk : 281474976710656 + 1 ≤ k) (n a b : Int) : run E noExt k 71 [.int .i64 n, .int .i64 a, .int .i64 b] [] = some (.bool (inR n a b), []) := by
  obtain ⟨k, rfl⟩ : ∃ j, k = j + 1 := ⟨k - 1, by omega⟩
  rw [run_succ rfl rfl, body_eq (nt := 15) (fn := Go.Proofs.Tryz.f71) (by kernel_rfl) rfl rfl rfl rfl rfl rfl rfl rfl]
  simp -implicitDefEqProofs only [↓DC, QS, ZRS, ↓ZDS, Go.Proofs.Tryz.f71, SS, one_ne2, num_ne2, TIS, MDS, Nat.reduceAdd, Nat.reduceEqDiff, Nat.reduceLT, Nat.reduceLeDiff, Nat.reduceMul, Nat.reduceSub, reduceIte]
  by_cases h : a ≤ n <;> simp -implicitDefEqProofs only [↓DC, QS, ZRS, ↓ZDS, h, inR, SS, one_ne2, num_ne2, TIS, MDS, Nat.reduceAdd, Nat.reduceEqDiff, Nat.reduceLT, Nat.reduceLeDiff, Nat.reduceMul, Nat.reduceSub, reduceIte]
theorem r_impl_InRange (k : Nat) (hk : 281474976710656 + 1 ≤ k) (n a b : Int) : run E noExt k 32 [.int .i64 n, .int .i64 a, .int .i64 b] [] = some (.bool (inR n a b), []) := by
  obtain ⟨k, rfl⟩ : ∃ j, k = j + 1 := ⟨k - 1, by omega⟩
  rw [run_succ rfl rfl, body_eq (nt := 15) (fn := Go.Proofs.Tryz.f32) (by kernel_rfl) rfl rfl rfl rfl rfl rfl rfl rfl]
  simp -implicitDefEqProofs only [↓DC, QS, ZRS, ↓ZDS, Go.Proofs.Tryz.f32, SS, one_ne2, num_ne2, TIS, MDS, Nat.reduceAdd, Nat.reduceEqDiff, Nat.reduceLT, Nat.reduceLeDiff, Nat.reduceMul, Nat.reduceSub, reduceIte]
  by_cases h : a ≤ n <;> simp -implicitDefEqProofs only [↓DC, QS, ZRS, ↓ZDS, h, inR, SS, one_ne2, num_ne2, TIS, MDS, Nat.reduceAdd, Nat.reduceEqDiff, Nat.reduceLT, Nat.reduceLeDiff, Nat.reduceMul, Nat.reduceSub, reduceIte]
def isT (n : Int) : Bool := inR n 0 10000
theorem r_spec_IsTime (k : Nat) (hk : 281474976710656 + 2 ≤ k) (n : Int) : run E noExt k 97 [.int .i64 n] [] = some (.bool (isT n), []) := by
  obtain ⟨k, rfl⟩ : ∃ j, k = j + 1 := ⟨k - 1, by omega⟩
  rw [run_succ rfl rfl, body_eq (nt := 5) (fn := Go.Proofs.Tryz.f97) (by kernel_rfl) rfl rfl rfl rfl rfl rfl rfl rfl]
  have c_spec_l1In := r_spec_l1In k (by omega)
  simp -implicitDefEqProofs only [W1, ↓D1, ↓DC, QX, Go.Proofs.Tryz.f97, c_spec_l1In, Int.reduceToNat, id_eq, Int.reduceBEq, Int.reduceLE, Int.reduceLT, Nat.reduceAdd, Nat.reduceEqDiff, Nat.reduceLT, Nat.reduceLeDiff, Nat.reduceMul, Nat.reduceSub, reduceIte]
  repeat' (split <;> (rename_i h; (try simp -implicitDefEqProofs only [Bool.not_eq_true', Bool.not_eq_false', decide_eq_true_eq, decide_eq_false_iff_not] at h); (try simp -implicitDefEqProofs only [W1, ↓D1, ↓DC, QX, *, c_spec_l1In, Int.reduceToNat, id_eq, Int.reduceBEq, Int.reduceLE, Int.reduceLT, Nat.reduceAdd, Nat.reduceEqDiff, Nat.reduceLT, Nat.reduceLeDiff, Nat.reduceMul, Nat.reduceSub, reduceIte])))
  rfl
theorem r_impl_IsTime (k : Nat) (hk : 281474976710656 + 2 ≤ k) (n : Int) : run E noExt k 35 [.int .i64 n] [] = some (.bool (isT n), []) := by
  obtain ⟨k, rfl⟩ : ∃ j, k = j + 1 := ⟨k - 1, by omega⟩
  rw [run_succ rfl rfl, body_eq (nt := 5) (fn := Go.Proofs.Tryz.f35) (by kernel_rfl) rfl rfl rfl rfl rfl rfl rfl rfl]
  have c_impl_InRange := r_impl_InRange k (by omega)
  simp -implicitDefEqProofs only [W1, ↓D1, ↓DC, QX, Go.Proofs.Tryz.f35, c_impl_InRange, Int.reduceToNat, id_eq, Int.reduceBEq, Int.reduceLE, Int.reduceLT, Nat.reduceAdd, Nat.reduceEqDiff, Nat.reduceLT, Nat.reduceLeDiff, Nat.reduceMul, Nat.reduceSub, reduceIte]
  repeat' (split <;> (rename_i h; (try simp -implicitDefEqProofs only [Bool.not_eq_true', Bool.not_eq_false', decide_eq_true_eq, decide_eq_false_iff_not] at h); (try simp -implicitDefEqProofs only [W1, ↓D1, ↓DC, QX, *, c_impl_InRange, Int.reduceToNat, id_eq, Int.reduceBEq, Int.reduceLE, Int.reduceLT, Nat.reduceAdd, Nat.reduceEqDiff, Nat.reduceLT, Nat.reduceLeDiff, Nat.reduceMul, Nat.reduceSub, reduceIte])))
  rfl
def arity (n : Int) : Int := if (n == 7) = true then 1 else if (n == 8) = true then 2 else if (n == 9) = true then 2 else if inR n 1 6 = true then 0 else -1
theorem r_impl_ArityOf (k : Nat) (hk : 281474976710656 + 2 ≤ k) (n : Int) : run E noExt k 111 [.int .i64 n] [] = some (.int .i64 (arity n), []) := by
  obtain ⟨k, rfl⟩ : ∃ j, k = j + 1 := ⟨k - 1, by omega⟩
  rw [run_succ rfl rfl, body_eq (nt := 16) (fn := Go.Proofs.Tryz.f111) (by kernel_rfl) rfl rfl rfl rfl rfl rfl rfl rfl]
  have c_impl_InRange := r_impl_InRange k (by omega)
  simp -implicitDefEqProofs only [W1, ↓D1, ↓DC, QX, Go.Proofs.Tryz.f111, c_impl_InRange, Int.reduceToNat, id_eq, Int.reduceBEq, Int.reduceLE, Int.reduceLT, Nat.reduceAdd, Nat.reduceEqDiff, Nat.reduceLT, Nat.reduceLeDiff, Nat.reduceMul, Nat.reduceSub, reduceIte]
  repeat' (split <;> (rename_i h; (try simp -implicitDefEqProofs only [Bool.not_eq_true', Bool.not_eq_false', decide_eq_true_eq, decide_eq_false_iff_not] at h); (try simp -implicitDefEqProofs only [W1, ↓D1, ↓DC, QX, *, c_impl_InRange, Int.reduceToNat, id_eq, Int.reduceBEq, Int.reduceLE, Int.reduceLT, Nat.reduceAdd, Nat.reduceEqDiff, Nat.reduceLT, Nat.reduceLeDiff, Nat.reduceMul, Nat.reduceSub, reduceIte])))
  all_goals simp -implicitDefEqProofs only [arity, *, reduceIte, Bool.false_eq_true]
theorem r_spec_ArityOf (k : Nat) (hk : 281474976710656 + 2 ≤ k) (n : Int) : run E noExt k 119 [.int .i64 n] [] = some (.int .i64 (arity n), []) := by
  obtain ⟨k, rfl⟩ : ∃ j, k = j + 1 := ⟨k - 1, by omega⟩
  rw [run_succ rfl rfl, body_eq (nt := 16) (fn := Go.Proofs.Tryz.f119) (by kernel_rfl) rfl rfl rfl rfl rfl rfl rfl rfl]
  simp -implicitDefEqProofs only [W1, ↓D1, ↓DC, QX, Go.Proofs.Tryz.f119, Int.reduceToNat, id_eq, Int.reduceBEq, Int.reduceLE, Int.reduceLT, Nat.reduceAdd, Nat.reduceEqDiff, Nat.reduceLT, Nat.reduceLeDiff, Nat.reduceMul, Nat.reduceSub, reduceIte]
  repeat' (split <;> (rename_i h; (try simp -implicitDefEqProofs only [Bool.not_eq_true', Bool.not_eq_false', decide_eq_true_eq, decide_eq_false_iff_not] at h); (try simp -implicitDefEqProofs only [W1, ↓D1, ↓DC, QX, *, Int.reduceToNat, id_eq, Int.reduceBEq, Int.reduceLE, Int.reduceLT, Nat.reduceAdd, Nat.reduceEqDiff, Nat.reduceLT, Nat.reduceLeDiff, Nat.reduceMul, Nat.reduceSub, reduceIte])))
  all_goals simp -implicitDefEqProofs only [arity, *, reduceIte, Bool.false_eq_true]
  all_goals grind [inR]
def nodeOk (op a b : Int) (len : Nat) : Bool :=
  (((len : Int) == arity op) && inR a 0 (if (op == 2) = true then 5 else if (op == 4) = true then 3 else if (op == 5) = true then 3 else if (op == 6) = true then 10000 else 0)) && inR b 0 (if inR op 2 5 = true then 10000 else 0)
set_option maxHeartbeats 4000000 in
theorem r_impl_isNode (k : Nat) (hk : 281474976710656 + 3 ≤ k) (op a b : Int) (fl : Bool) (xs : List AV) : run E noExt k 98 [.agg [.int .i64 op, .int .i64 a, .int .i64 b, .sl fl xs]] [] = some (.bool (nodeOk op a b xs.length), []) := by
  obtain ⟨k, rfl⟩ : ∃ j, k = j + 1 := ⟨k - 1, by omega⟩
  rw [run_succ rfl rfl, body_eq (nt := 36) (fn := Go.Proofs.Tryz.f98) (by kernel_rfl) rfl rfl rfl rfl rfl rfl rfl rfl]
  have c_impl_InRange := r_impl_InRange k (by omega)
  have c_impl_ArityOf := r_impl_ArityOf k (by omega)
  simp -implicitDefEqProofs only [W1, ↓D1, ↓DC, QX, Go.Proofs.Tryz.f98, c_impl_InRange, c_impl_ArityOf, plan_98_12, len_sl, Int.reduceToNat, id_eq, Int.reduceBEq, Int.reduceLE, Int.reduceLT, Nat.reduceAdd, Nat.reduceEqDiff, Nat.reduceLT, Nat.reduceLeDiff, Nat.reduceMul, Nat.reduceSub, reduceIte]
  repeat' (split <;> (rename_i h; (try simp -implicitDefEqProofs only [Bool.not_eq_true', Bool.not_eq_false', decide_eq_true_eq, decide_eq_false_iff_not] at h); (try simp -implicitDefEqProofs only [W1, ↓D1, ↓DC, QX, *, c_impl_InRange, c_impl_ArityOf, plan_98_12, len_sl, Int.reduceToNat, id_eq, Int.reduceBEq, Int.reduceLE, Int.reduceLT, Nat.reduceAdd, Nat.reduceEqDiff, Nat.reduceLT, Nat.reduceLeDiff, Nat.reduceMul, Nat.reduceSub, reduceIte])))
  all_goals simp -implicitDefEqProofs only [nodeOk, *, reduceIte, Bool.false_eq_true, Bool.true_and, Bool.and_true, Bool.false_and, Bool.and_false]
set_option maxHeartbeats 4000000 in
theorem r_spec_l15Node (k : Nat) (hk : 281474976710656 + 3 ≤ k) (op a b : Int) (fl : Bool) (xs : List AV) : run E noExt k 105 [.agg [.int .i64 op, .int .i64 a, .int .i64 b, .sl fl xs]] [] = some (.bool (nodeOk op a b xs.length), []) := by
  obtain ⟨k, rfl⟩ : ∃ j, k = j + 1 := ⟨k - 1, by omega⟩
  rw [run_succ rfl rfl, body_eq (nt := 48) (fn := Go.Proofs.Tryz.f105) (by kernel_rfl) rfl rfl rfl rfl rfl rfl rfl rfl]
  have c_spec_l1In := r_spec_l1In k (by omega)
  have c_spec_IsTime := r_spec_IsTime k (by omega)
  have c_spec_ArityOf := r_spec_ArityOf k (by omega)
  simp -implicitDefEqProofs only [W1, ↓D1, ↓DC, QX, Go.Proofs.Tryz.f105, c_spec_l1In, c_spec_IsTime, c_spec_ArityOf, plan_105_13, len_sl, Int.reduceToNat, id_eq, Int.reduceBEq, Int.reduceLE, Int.reduceLT, Nat.reduceAdd, Nat.reduceEqDiff, Nat.reduceLT, Nat.reduceLeDiff, Nat.reduceMul, Nat.reduceSub, reduceIte]
  repeat' (split <;> (rename_i h; (try simp -implicitDefEqProofs only [Bool.not_eq_true', Bool.not_eq_false', decide_eq_true_eq, decide_eq_false_iff_not] at h); (try simp -implicitDefEqProofs only [W1, ↓D1, ↓DC, QX, *, c_spec_l1In, c_spec_IsTime, c_spec_ArityOf, plan_105_13, len_sl, Int.reduceToNat, id_eq, Int.reduceBEq, Int.reduceLE, Int.reduceLT, Nat.reduceAdd, Nat.reduceEqDiff, Nat.reduceLT, Nat.reduceLeDiff, Nat.reduceMul, Nat.reduceSub, reduceIte])))
  all_goals grind [nodeOk, inR, isT]
set_option maxRecDepth 10000
theorem eqb_Choice (x y : Choice) : decide (x = y) = ((x.atom == y.atom) && ((x.low == y.low) && (x.high == y.high))) := by
  cases x; cases y
  rw [Bool.eq_iff_iff]
  simp [Choice.mk.injEq]
theorem eqb_Cond (x y : Cond) : decide (x = y) = ((x.op == y.op) && ((x.a == y.a) && ((x.b == y.b) && decide (x.args = y.args)))) := by
  cases x; cases y
  rw [Bool.eq_iff_iff]
  simp [Cond.mk.injEq]
theorem r_slices_Index_Int {fl gl : Bool} (k : Nat) (hk : 281474976710656 + 1 ≤ k) (s : List Int) (hs : s.length ≤ 140737488355328) (x : Int) :
    run E noExt k 112 [.sl fl (s.map (AV.int .i64)), .int .i64 x] [] = some (.int .i64 (indexBy (fun y => decide (x = y)) 0 s), []) := by
  obtain ⟨k, rfl⟩ : ∃ j, k = j + 1 := ⟨k - 1, by omega⟩
  rw [run_succ rfl rfl, body_eq (nt := 19) (fn := Go.Proofs.Tryz.f112) (by kernel_rfl) rfl rfl rfl rfl rfl rfl rfl rfl]
  simp -implicitDefEqProofs only [W1, ↓D1, ↓DC, Go.Proofs.Tryz.f112, ifEv_bool, bne, Int.reduceToNat, id_eq, Int.reduceBEq, Int.reduceLE, Int.reduceLT, Nat.reduceAdd, Nat.reduceEqDiff, Nat.reduceLT, Nat.reduceLeDiff, Nat.reduceMul, Nat.reduceSub, reduceIte]
  rw [ev_loop]
  refine Eq.trans (loop_list (Q := fun g x => thenEnd E.P [] _ 0 (thenEv E _ _ _ _ _ (outOf 0 x)) = some (.int .i64 g, [])) s (indexStep fun y => decide (x = y)) (fun _ => -1)
    (fun i _ => { sl := [(0, .sl fl (s.map (AV.int .i64))), (1, .int .i64 x), (7, .int .i64 (s.length : Nat)), (8, .int .i64 (i : Nat))], bx := [], nx := 0, nt := 19 }) (fun _ _ => True) () ?_ ?_ (by omega) trivial ?_) ?_
  · intro b _
    simp -implicitDefEqProofs only [W2, ↓D2, ↓DC, QX, leaf_some, isNormal, Int.reduceToNat, id_eq, Int.reduceBEq, Int.reduceLE, Int.reduceLT, Nat.reduceAdd, Nat.reduceEqDiff, Nat.reduceLT, Nat.reduceLeDiff, Nat.reduceMul, Nat.reduceSub, reduceIte]
    repeat' (split <;> (rename_i h; (try simp -implicitDefEqProofs only [Bool.not_eq_true', Bool.not_eq_false', decide_eq_true_eq, decide_eq_false_iff_not] at h); (try simp -implicitDefEqProofs only [W2, ↓D2, ↓DC, QX, *, leaf_some, isNormal, Int.reduceToNat, id_eq, Int.reduceBEq, Int.reduceLE, Int.reduceLT, Nat.reduceAdd, Nat.reduceEqDiff, Nat.reduceLT, Nat.reduceLeDiff, Nat.reduceMul, Nat.reduceSub, reduceIte])))
  · intro pre c r b hs' _
    have hx := (at_row hs' hs).1; have hc := (at_row hs' hs).2.1; have hlt := (at_row hs' hs).2.2.1; have hw1 := (at_row hs' hs).2.2.2.1; have hl9 := (at_row hs' hs).2.2.2.2
    clear hs'
    have hq : decide (x = c) = (x == c) := by rw [Bool.eq_iff_iff]; simp
    simp -implicitDefEqProofs only [W2, ↓D2, ↓DC, QX, hx, hlt, hw1, hq, indexStep, keep_112_2, leaf_some, isNormal, Int.reduceToNat, id_eq, Int.reduceBEq, Int.reduceLE, Int.reduceLT, Nat.reduceAdd, Nat.reduceEqDiff, Nat.reduceLT, Nat.reduceLeDiff, Nat.reduceMul, Nat.reduceSub, reduceIte]
    repeat' (split <;> (rename_i h; (try simp -implicitDefEqProofs only [Bool.not_eq_true', Bool.not_eq_false', decide_eq_true_eq, decide_eq_false_iff_not] at h); (try simp -implicitDefEqProofs only [W2, ↓D2, ↓DC, QX, *, hx, hlt, hw1, hq, indexStep, keep_112_2, leaf_some, isNormal, Int.reduceToNat, id_eq, Int.reduceBEq, Int.reduceLE, Int.reduceLT, Nat.reduceAdd, Nat.reduceEqDiff, Nat.reduceLT, Nat.reduceLeDiff, Nat.reduceMul, Nat.reduceSub, reduceIte])))
  · simp -implicitDefEqProofs only [firstRegion]; rw [keep_112_2]; simp -implicitDefEqProofs only [W2, ↓D2, ↓DC, Int.reduceToNat, id_eq, Int.reduceBEq, Int.reduceLE, Int.reduceLT, Nat.reduceAdd, Nat.reduceEqDiff, Nat.reduceLT, Nat.reduceLeDiff, Nat.reduceMul, Nat.reduceSub, reduceIte]; first | done | rfl
  · rw [indexLoop]
theorem r_slices_Contains_Int {fl gl : Bool} (k : Nat) (hk : 281474976710656 + 2 ≤ k) (s : List Int) (hs : s.length ≤ 140737488355328) (x : Int) :
    run E noExt k 100 [.sl fl (s.map (AV.int .i64)), .int .i64 x] [] = some (.bool (s.any fun y => decide (x = y)), []) := by
  have c2 := r_slices_Index_Int (fl := fl) (gl := gl) (k - 1) (by omega) s hs x
  obtain ⟨k, rfl⟩ : ∃ j, k = j + 1 := ⟨k - 1, by omega⟩
  rw [run_succ rfl rfl, body_eq (nt := 9) (fn := Go.Proofs.Tryz.f100) (by kernel_rfl) rfl rfl rfl rfl rfl rfl rfl rfl]
  simp -implicitDefEqProofs only [Nat.add_sub_cancel, id_eq] at c2
  simp -implicitDefEqProofs only [W1, ↓D1, ↓DC, Go.Proofs.Tryz.f100, c2, Int.reduceToNat, id_eq, Int.reduceBEq, Int.reduceLE, Int.reduceLT, Nat.reduceAdd, Nat.reduceEqDiff, Nat.reduceLT, Nat.reduceLeDiff, Nat.reduceMul, Nat.reduceSub, reduceIte]
  rw [indexBy_nonneg]
theorem r_slices_IndexFunc_Fact {fl : Bool} (k : Nat) (s : List Fact) (hk : 281474976710656 + 1 ≤ k) (hs : s.length ≤ 140737488355328) (F : Nat) (caps : List AV) (hP : Plain caps) (p : Fact → Bool)
    (hF : ∀ x ∈ s, run E noExt (k - 1) F ([x.enc fl] ++ caps) [] = some (.bool (p x), [])) (hmdF : E.md F = [] := by rfl) :
    run E noExt k 102 [.sl fl (s.map (Fact.enc fl)), .clo F caps] [] = some (.int .i64 (indexBy p 0 s), []) := by
  obtain ⟨k, rfl⟩ : ∃ j, k = j + 1 := ⟨k - 1, by omega⟩
  rw [run_succ rfl rfl, body_eq (nt := 19) (fn := Go.Proofs.Tryz.f102) (by kernel_rfl) rfl rfl rfl rfl rfl rfl rfl rfl]
  simp -implicitDefEqProofs only [Nat.add_sub_cancel] at hF
  have hR := hP.rows; have hB := hP.boxes; have hM := hP.map; have hLd := hP.lend
  simp -implicitDefEqProofs only [W1, ↓D1, ↓DC, Go.Proofs.Tryz.f102, ifEv_bool, bne, hLd, Int.reduceToNat, id_eq, Int.reduceBEq, Int.reduceLE, Int.reduceLT, Nat.reduceAdd, Nat.reduceEqDiff, Nat.reduceLT, Nat.reduceLeDiff, Nat.reduceMul, Nat.reduceSub, reduceIte]
  rw [ev_loop]
  refine Eq.trans (loop_list (Q := fun g x => thenEnd E.P [] _ 0 (thenEv E _ _ _ _ _ (outOf 0 x)) = some (.int .i64 g, [])) s (indexStep p) (fun _ => -1)
    (fun i _ => { sl := [(0, .sl fl (s.map (Fact.enc fl))), (1, .clo F caps), (7, .int .i64 (s.length : Nat)), (8, .int .i64 (i : Nat))], bx := [], nx := 0, nt := 19 }) (fun _ _ => True) () ?_ ?_ (by omega) trivial ?_) ?_
  · intro b _
    simp -implicitDefEqProofs only [W2, ↓D2, ↓DC, QX, leaf_some, isNormal, Int.reduceToNat, id_eq, Int.reduceBEq, Int.reduceLE, Int.reduceLT, Nat.reduceAdd, Nat.reduceEqDiff, Nat.reduceLT, Nat.reduceLeDiff, Nat.reduceMul, Nat.reduceSub, reduceIte]
    repeat' (split <;> (rename_i h; (try simp -implicitDefEqProofs only [Bool.not_eq_true', Bool.not_eq_false', decide_eq_true_eq, decide_eq_false_iff_not] at h); (try simp -implicitDefEqProofs only [W2, ↓D2, ↓DC, QX, *, leaf_some, isNormal, Int.reduceToNat, id_eq, Int.reduceBEq, Int.reduceLE, Int.reduceLT, Nat.reduceAdd, Nat.reduceEqDiff, Nat.reduceLT, Nat.reduceLeDiff, Nat.reduceMul, Nat.reduceSub, reduceIte])))
  · intro pre c r b hs' _
    have hx := (at_row hs' hs).1; have hc := (at_row hs' hs).2.1; have hlt := (at_row hs' hs).2.2.1; have hw1 := (at_row hs' hs).2.2.2.1
    clear hs'
    have c2 := hF c hc
    simp -implicitDefEqProofs only [enc_Fact, List.cons_append, List.nil_append] at c2
    simp -implicitDefEqProofs only [W2, ↓D2, ↓DC, QX, enc_Fact, hx, hlt, hw1, c2, indexStep, hmdF, hLd, hR, hB, hM, keep_102_2, leaf_some, isNormal, Int.reduceToNat, id_eq, Int.reduceBEq, Int.reduceLE, Int.reduceLT, Nat.reduceAdd, Nat.reduceEqDiff, Nat.reduceLT, Nat.reduceLeDiff, Nat.reduceMul, Nat.reduceSub, reduceIte]
    repeat' (split <;> (rename_i h; (try simp -implicitDefEqProofs only [Bool.not_eq_true', Bool.not_eq_false', decide_eq_true_eq, decide_eq_false_iff_not] at h); (try simp -implicitDefEqProofs only [W2, ↓D2, ↓DC, QX, *, enc_Fact, hx, hlt, hw1, c2, indexStep, hmdF, hLd, hR, hB, hM, keep_102_2, leaf_some, isNormal, Int.reduceToNat, id_eq, Int.reduceBEq, Int.reduceLE, Int.reduceLT, Nat.reduceAdd, Nat.reduceEqDiff, Nat.reduceLT, Nat.reduceLeDiff, Nat.reduceMul, Nat.reduceSub, reduceIte])))
  · simp -implicitDefEqProofs only [firstRegion]; rw [keep_102_2]; simp -implicitDefEqProofs only [W2, ↓D2, ↓DC, hR, hB, hM, Int.reduceToNat, id_eq, Int.reduceBEq, Int.reduceLE, Int.reduceLT, Nat.reduceAdd, Nat.reduceEqDiff, Nat.reduceLT, Nat.reduceLeDiff, Nat.reduceMul, Nat.reduceSub, reduceIte]; first | done | rfl
  · rw [indexLoop]
theorem r_slices_Index_Choice {fl gl : Bool} (k : Nat) (hk : 281474976710656 + 1 ≤ k) (s : List Choice) (hs : s.length ≤ 140737488355328) (x : Choice) :
    run E noExt k 109 [.sl fl (s.map (Choice.enc fl)), x.enc gl] [] = some (.int .i64 (indexBy (fun y => decide (x = y)) 0 s), []) := by
  obtain ⟨k, rfl⟩ : ∃ j, k = j + 1 := ⟨k - 1, by omega⟩
  rw [run_succ rfl rfl, body_eq (nt := 19) (fn := Go.Proofs.Tryz.f109) (by kernel_rfl) rfl rfl rfl rfl rfl rfl rfl rfl]
  simp -implicitDefEqProofs only [W1, ↓D1, ↓DC, Go.Proofs.Tryz.f109, enc_Choice, ifEv_bool, bne, Int.reduceToNat, id_eq, Int.reduceBEq, Int.reduceLE, Int.reduceLT, Nat.reduceAdd, Nat.reduceEqDiff, Nat.reduceLT, Nat.reduceLeDiff, Nat.reduceMul, Nat.reduceSub, reduceIte]
  rw [ev_loop]
  refine Eq.trans (loop_list (Q := fun g x => thenEnd E.P [] _ 0 (thenEv E _ _ _ _ _ (outOf 0 x)) = some (.int .i64 g, [])) s (indexStep fun y => decide (x = y)) (fun _ => -1)
    (fun i _ => { sl := [(0, .sl fl (s.map (Choice.enc fl))), (3, .ptr 0 0), (7, .int .i64 (s.length : Nat)), (8, .int .i64 (i : Nat))], bx := [(0, [.int .i64 x.atom, .int .i64 x.low, .int .i64 x.high])], nx := 1, nt := 19 }) (fun _ _ => True) () ?_ ?_ (by omega) trivial ?_) ?_
  · intro b _
    simp -implicitDefEqProofs only [W2, ↓D2, ↓DC, QX, leaf_some, isNormal, Int.reduceToNat, id_eq, Int.reduceBEq, Int.reduceLE, Int.reduceLT, Nat.reduceAdd, Nat.reduceEqDiff, Nat.reduceLT, Nat.reduceLeDiff, Nat.reduceMul, Nat.reduceSub, reduceIte]
    repeat' (split <;> (rename_i h; (try simp -implicitDefEqProofs only [Bool.not_eq_true', Bool.not_eq_false', decide_eq_true_eq, decide_eq_false_iff_not] at h); (try simp -implicitDefEqProofs only [W2, ↓D2, ↓DC, QX, *, leaf_some, isNormal, Int.reduceToNat, id_eq, Int.reduceBEq, Int.reduceLE, Int.reduceLT, Nat.reduceAdd, Nat.reduceEqDiff, Nat.reduceLT, Nat.reduceLeDiff, Nat.reduceMul, Nat.reduceSub, reduceIte])))
  · intro pre c r b hs' _
    have hx := (at_row hs' hs).1; have hc := (at_row hs' hs).2.1; have hlt := (at_row hs' hs).2.2.1; have hw1 := (at_row hs' hs).2.2.2.1; have hl9 := (at_row hs' hs).2.2.2.2
    clear hs'
    have hq := eqb_Choice x c
    simp -implicitDefEqProofs only [W2, ↓D2, ↓DC, QX, enc_Choice, hx, hlt, hw1, hq, indexStep, plan_109_4, keep_109_2, leaf_some, isNormal, Int.reduceToNat, id_eq, Int.reduceBEq, Int.reduceLE, Int.reduceLT, Nat.reduceAdd, Nat.reduceEqDiff, Nat.reduceLT, Nat.reduceLeDiff, Nat.reduceMul, Nat.reduceSub, reduceIte]
    repeat' (split <;> (rename_i h; (try simp -implicitDefEqProofs only [Bool.not_eq_true', Bool.not_eq_false', decide_eq_true_eq, decide_eq_false_iff_not] at h); (try simp -implicitDefEqProofs only [W2, ↓D2, ↓DC, QX, *, enc_Choice, hx, hlt, hw1, hq, indexStep, plan_109_4, keep_109_2, leaf_some, isNormal, Int.reduceToNat, id_eq, Int.reduceBEq, Int.reduceLE, Int.reduceLT, Nat.reduceAdd, Nat.reduceEqDiff, Nat.reduceLT, Nat.reduceLeDiff, Nat.reduceMul, Nat.reduceSub, reduceIte])))
  · simp -implicitDefEqProofs only [firstRegion]; rw [keep_109_2]; simp -implicitDefEqProofs only [W2, ↓D2, ↓DC, enc_Choice, Int.reduceToNat, id_eq, Int.reduceBEq, Int.reduceLE, Int.reduceLT, Nat.reduceAdd, Nat.reduceEqDiff, Nat.reduceLT, Nat.reduceLeDiff, Nat.reduceMul, Nat.reduceSub, reduceIte]; first | done | rfl
  · rw [indexLoop]
theorem r_slices_EqualFunc_Cond {fl gl : Bool} (k : Nat) (s t : List Cond) (hk : 281474976710656 + 1 ≤ k) (hs : s.length ≤ 140737488355328) (F : Nat) (caps : List AV) (hP : Plain caps) (p : Cond → Cond → Bool)
    (hF : ∀ x ∈ s, ∀ y ∈ t, run E noExt (k - 1) F ([x.enc fl, y.enc gl] ++ caps) [] = some (.bool (p x y), [])) (hmdF : E.md F = [] := by rfl) :
    run E noExt k 95 [.sl fl (s.map (Cond.enc fl)), .sl gl (t.map (Cond.enc gl)), .clo F caps] [] = some (.bool (eqBy p s t), []) := by
  obtain ⟨k, rfl⟩ : ∃ j, k = j + 1 := ⟨k - 1, by omega⟩
  rw [run_succ rfl rfl, body_eq (nt := 32) (fn := Go.Proofs.Tryz.f95) (by kernel_rfl) rfl rfl rfl rfl rfl rfl rfl rfl]
  simp -implicitDefEqProofs only [Nat.add_sub_cancel] at hF
  have hR := hP.rows; have hB := hP.boxes; have hM := hP.map; have hLd := hP.lend
  simp -implicitDefEqProofs only [W1, ↓D1, ↓DC, Go.Proofs.Tryz.f95, ifEv_bool, bne, hLd, Int.reduceToNat, id_eq, Int.reduceBEq, Int.reduceLE, Int.reduceLT, Nat.reduceAdd, Nat.reduceEqDiff, Nat.reduceLT, Nat.reduceLeDiff, Nat.reduceMul, Nat.reduceSub, reduceIte]
  split
  · rename_i h
    have h' : s.length ≠ t.length := by
      intro e
      rw [e] at h
      simp at h
    simp -implicitDefEqProofs only [↓DC, QS, ZRS, ↓ZDS, h, eqBy, h', SS, one_ne2, num_ne2, TIS, MDS, Nat.reduceAdd, Nat.reduceEqDiff, Nat.reduceLT, Nat.reduceLeDiff, Nat.reduceMul, Nat.reduceSub, reduceIte]
  · rename_i h
    have hl : s.length = t.length := by
      have h2 : (s.length : Int) = t.length := by simpa using h
      omega
    simp -implicitDefEqProofs only [W1, ↓D1, ↓DC, h, Int.reduceToNat, id_eq, Int.reduceBEq, Int.reduceLE, Int.reduceLT, Nat.reduceAdd, Nat.reduceEqDiff, Nat.reduceLT, Nat.reduceLeDiff, Nat.reduceMul, Nat.reduceSub, reduceIte]
    rw [ev_loop]
    refine Eq.trans (loop_list (Q := fun g x => thenEnd E.P [] _ 0 (thenEv E _ _ _ _ _ (outOf 0 x)) = some (.bool g, [])) (s.zip t) (eqByStep p) (fun _ => true)
      (fun i _ => { sl := [(1, .sl gl (t.map (Cond.enc gl))), (2, .clo F caps), (15, .sl fl (s.map (Cond.enc fl))), (16, .int .i64 (s.length : Nat)), (17, .int .i64 (i : Nat))], bx := [], nx := 0, nt := 32 }) (fun _ _ => True) () ?_ ?_ (by simp; omega) trivial ?_) ?_
    · intro b _
      have hz : (s.zip t).length = s.length := by simp; omega
      simp -implicitDefEqProofs only [W2, ↓D2, ↓DC, QX, hz, leaf_some, isNormal, Int.reduceToNat, id_eq, Int.reduceBEq, Int.reduceLE, Int.reduceLT, Nat.reduceAdd, Nat.reduceEqDiff, Nat.reduceLT, Nat.reduceLeDiff, Nat.reduceMul, Nat.reduceSub, reduceIte]
      repeat' (split <;> (rename_i h; (try simp -implicitDefEqProofs only [Bool.not_eq_true', Bool.not_eq_false', decide_eq_true_eq, decide_eq_false_iff_not] at h); (try simp -implicitDefEqProofs only [W2, ↓D2, ↓DC, QX, *, hz, leaf_some, isNormal, Int.reduceToNat, id_eq, Int.reduceBEq, Int.reduceLE, Int.reduceLT, Nat.reduceAdd, Nat.reduceEqDiff, Nat.reduceLT, Nat.reduceLeDiff, Nat.reduceMul, Nat.reduceSub, reduceIte])))
    · intro pre q r b hs' _
      have hx := (zip_at hl hs').1
      have hy := (zip_at hl hs').2.1
      have e1 := (zip_at hl hs').2.2.1
      have hlt := (at_row (s := s) (pre := pre.map Prod.fst) e1 hs).2.2.1
      have hw1 := (at_row (s := s) (pre := pre.map Prod.fst) e1 hs).2.2.2.1
      have hc := (at_row (s := s) (pre := pre.map Prod.fst) e1 hs).2.1
      have hd : q.2 ∈ t := by rw [(zip_at hl hs').2.2.2]; simp
      simp -implicitDefEqProofs only [List.length_map] at hlt hw1
      clear e1 hs'
      have c2 := hF q.1 hc q.2 hd
      simp -implicitDefEqProofs only [enc_Cond, List.cons_append, List.nil_append] at c2
      simp -implicitDefEqProofs only [W2, ↓D2, ↓DC, QX, enc_Cond, hx, hy, hlt, hw1, c2, eqByStep, hmdF, hLd, hR, hB, hM, keep_95_4, leaf_some, isNormal, Int.reduceToNat, id_eq, Int.reduceBEq, Int.reduceLE, Int.reduceLT, Nat.reduceAdd, Nat.reduceEqDiff, Nat.reduceLT, Nat.reduceLeDiff, Nat.reduceMul, Nat.reduceSub, reduceIte]
      repeat' (split <;> (rename_i h; (try simp -implicitDefEqProofs only [Bool.not_eq_true', Bool.not_eq_false', decide_eq_true_eq, decide_eq_false_iff_not] at h); (try simp -implicitDefEqProofs only [W2, ↓D2, ↓DC, QX, *, enc_Cond, hx, hy, hlt, hw1, c2, eqByStep, hmdF, hLd, hR, hB, hM, keep_95_4, leaf_some, isNormal, Int.reduceToNat, id_eq, Int.reduceBEq, Int.reduceLE, Int.reduceLT, Nat.reduceAdd, Nat.reduceEqDiff, Nat.reduceLT, Nat.reduceLeDiff, Nat.reduceMul, Nat.reduceSub, reduceIte])))
    · simp -implicitDefEqProofs only [firstRegion]; rw [keep_95_4]; simp -implicitDefEqProofs only [W2, ↓D2, ↓DC, hR, hB, hM, Int.reduceToNat, id_eq, Int.reduceBEq, Int.reduceLE, Int.reduceLT, Nat.reduceAdd, Nat.reduceEqDiff, Nat.reduceLT, Nat.reduceLeDiff, Nat.reduceMul, Nat.reduceSub, reduceIte]; first | done | rfl
    · rw [eqByLoop _ _ _ _ hl]
theorem r_slices_IndexFunc_Cond {fl : Bool} (k : Nat) (s : List Cond) (hk : 281474976710656 + 1 ≤ k) (hs : s.length ≤ 140737488355328) (F : Nat) (caps : List AV) (hP : Plain caps) (p : Cond → Bool)
    (hF : ∀ x ∈ s, run E noExt (k - 1) F ([x.enc fl] ++ caps) [] = some (.bool (p x), [])) (hmdF : E.md F = [] := by rfl) :
    run E noExt k 88 [.sl fl (s.map (Cond.enc fl)), .clo F caps] [] = some (.int .i64 (indexBy p 0 s), []) := by
  obtain ⟨k, rfl⟩ : ∃ j, k = j + 1 := ⟨k - 1, by omega⟩
  rw [run_succ rfl rfl, body_eq (nt := 19) (fn := Go.Proofs.Tryz.f88) (by kernel_rfl) rfl rfl rfl rfl rfl rfl rfl rfl]
  simp -implicitDefEqProofs only [Nat.add_sub_cancel] at hF
  have hR := hP.rows; have hB := hP.boxes; have hM := hP.map; have hLd := hP.lend
  simp -implicitDefEqProofs only [W1, ↓D1, ↓DC, Go.Proofs.Tryz.f88, ifEv_bool, bne, hLd, Int.reduceToNat, id_eq, Int.reduceBEq, Int.reduceLE, Int.reduceLT, Nat.reduceAdd, Nat.reduceEqDiff, Nat.reduceLT, Nat.reduceLeDiff, Nat.reduceMul, Nat.reduceSub, reduceIte]
  rw [ev_loop]
  refine Eq.trans (loop_list (Q := fun g x => thenEnd E.P [] _ 0 (thenEv E _ _ _ _ _ (outOf 0 x)) = some (.int .i64 g, [])) s (indexStep p) (fun _ => -1)
    (fun i _ => { sl := [(0, .sl fl (s.map (Cond.enc fl))), (1, .clo F caps), (7, .int .i64 (s.length : Nat)), (8, .int .i64 (i : Nat))], bx := [], nx := 0, nt := 19 }) (fun _ _ => True) () ?_ ?_ (by omega) trivial ?_) ?_
  · intro b _
    simp -implicitDefEqProofs only [W2, ↓D2, ↓DC, QX, leaf_some, isNormal, Int.reduceToNat, id_eq, Int.reduceBEq, Int.reduceLE, Int.reduceLT, Nat.reduceAdd, Nat.reduceEqDiff, Nat.reduceLT, Nat.reduceLeDiff, Nat.reduceMul, Nat.reduceSub, reduceIte]
    repeat' (split <;> (rename_i h; (try simp -implicitDefEqProofs only [Bool.not_eq_true', Bool.not_eq_false', decide_eq_true_eq, decide_eq_false_iff_not] at h); (try simp -implicitDefEqProofs only [W2, ↓D2, ↓DC, QX, *, leaf_some, isNormal, Int.reduceToNat, id_eq, Int.reduceBEq, Int.reduceLE, Int.reduceLT, Nat.reduceAdd, Nat.reduceEqDiff, Nat.reduceLT, Nat.reduceLeDiff, Nat.reduceMul, Nat.reduceSub, reduceIte])))
  · intro pre c r b hs' _
    have hx := (at_row hs' hs).1; have hc := (at_row hs' hs).2.1; have hlt := (at_row hs' hs).2.2.1; have hw1 := (at_row hs' hs).2.2.2.1
    clear hs'
    have c2 := hF c hc
    simp -implicitDefEqProofs only [enc_Cond, List.cons_append, List.nil_append] at c2
    simp -implicitDefEqProofs only [W2, ↓D2, ↓DC, QX, enc_Cond, hx, hlt, hw1, c2, indexStep, hmdF, hLd, hR, hB, hM, keep_88_2, leaf_some, isNormal, Int.reduceToNat, id_eq, Int.reduceBEq, Int.reduceLE, Int.reduceLT, Nat.reduceAdd, Nat.reduceEqDiff, Nat.reduceLT, Nat.reduceLeDiff, Nat.reduceMul, Nat.reduceSub, reduceIte]
    repeat' (split <;> (rename_i h; (try simp -implicitDefEqProofs only [Bool.not_eq_true', Bool.not_eq_false', decide_eq_true_eq, decide_eq_false_iff_not] at h); (try simp -implicitDefEqProofs only [W2, ↓D2, ↓DC, QX, *, enc_Cond, hx, hlt, hw1, c2, indexStep, hmdF, hLd, hR, hB, hM, keep_88_2, leaf_some, isNormal, Int.reduceToNat, id_eq, Int.reduceBEq, Int.reduceLE, Int.reduceLT, Nat.reduceAdd, Nat.reduceEqDiff, Nat.reduceLT, Nat.reduceLeDiff, Nat.reduceMul, Nat.reduceSub, reduceIte])))
  · simp -implicitDefEqProofs only [firstRegion]; rw [keep_88_2]; simp -implicitDefEqProofs only [W2, ↓D2, ↓DC, hR, hB, hM, Int.reduceToNat, id_eq, Int.reduceBEq, Int.reduceLE, Int.reduceLT, Nat.reduceAdd, Nat.reduceEqDiff, Nat.reduceLT, Nat.reduceLeDiff, Nat.reduceMul, Nat.reduceSub, reduceIte]; first | done | rfl
  · rw [indexLoop]
theorem r_slices_ContainsFunc_Cond {fl : Bool} (k : Nat) (s : List Cond) (hk : 281474976710656 + 2 ≤ k) (hs : s.length ≤ 140737488355328) (F : Nat) (caps : List AV) (hP : Plain caps) (p : Cond → Bool)
    (hF : ∀ x ∈ s, run E noExt (k - 2) F ([x.enc fl] ++ caps) [] = some (.bool (p x), [])) (hmdF : E.md F = [] := by rfl) :
    run E noExt k 74 [.sl fl (s.map (Cond.enc fl)), .clo F caps] [] = some (.bool (s.any p), []) := by
  have c2 := r_slices_IndexFunc_Cond (fl := fl) (k - 1) s (by omega) hs F caps hP p (by rw [show k - 1 - 1 = k - 2 by omega]; exact hF) hmdF
  have hR := hP.rows; have hB := hP.boxes; have hM := hP.map; have hLd := hP.lend
  clear hF
  obtain ⟨k, rfl⟩ : ∃ j, k = j + 1 := ⟨k - 1, by omega⟩
  rw [run_succ rfl rfl, body_eq (nt := 9) (fn := Go.Proofs.Tryz.f74) (by kernel_rfl) rfl rfl rfl rfl rfl rfl rfl rfl]
  simp -implicitDefEqProofs only [Nat.add_sub_cancel] at c2
  simp -implicitDefEqProofs only [W1, ↓D1, ↓DC, Go.Proofs.Tryz.f74, c2, hLd, Int.reduceToNat, id_eq, Int.reduceBEq, Int.reduceLE, Int.reduceLT, Nat.reduceAdd, Nat.reduceEqDiff, Nat.reduceLT, Nat.reduceLeDiff, Nat.reduceMul, Nat.reduceSub, reduceIte]
  rw [indexBy_nonneg]
theorem r_slices_IndexFunc_Rule {fl : Bool} (k : Nat) (s : List Rule) (hk : 281474976710656 + 1 ≤ k) (hs : s.length ≤ 140737488355328) (F : Nat) (caps : List AV) (hP : Plain caps) (p : Rule → Bool)
    (hF : ∀ x ∈ s, run E noExt (k - 1) F ([x.enc fl] ++ caps) [] = some (.bool (p x), [])) (hmdF : E.md F = [] := by rfl) :
    run E noExt k 93 [.sl fl (s.map (Rule.enc fl)), .clo F caps] [] = some (.int .i64 (indexBy p 0 s), []) := by
  obtain ⟨k, rfl⟩ : ∃ j, k = j + 1 := ⟨k - 1, by omega⟩
  rw [run_succ rfl rfl, body_eq (nt := 19) (fn := Go.Proofs.Tryz.f93) (by kernel_rfl) rfl rfl rfl rfl rfl rfl rfl rfl]
  simp -implicitDefEqProofs only [Nat.add_sub_cancel] at hF
  have hR := hP.rows; have hB := hP.boxes; have hM := hP.map; have hLd := hP.lend
  simp -implicitDefEqProofs only [W1, ↓D1, ↓DC, Go.Proofs.Tryz.f93, ifEv_bool, bne, hLd, Int.reduceToNat, id_eq, Int.reduceBEq, Int.reduceLE, Int.reduceLT, Nat.reduceAdd, Nat.reduceEqDiff, Nat.reduceLT, Nat.reduceLeDiff, Nat.reduceMul, Nat.reduceSub, reduceIte]
  rw [ev_loop]
  refine Eq.trans (loop_list (Q := fun g x => thenEnd E.P [] _ 0 (thenEv E _ _ _ _ _ (outOf 0 x)) = some (.int .i64 g, [])) s (indexStep p) (fun _ => -1)
    (fun i _ => { sl := [(0, .sl fl (s.map (Rule.enc fl))), (1, .clo F caps), (7, .int .i64 (s.length : Nat)), (8, .int .i64 (i : Nat))], bx := [], nx := 0, nt := 19 }) (fun _ _ => True) () ?_ ?_ (by omega) trivial ?_) ?_
  · intro b _
    simp -implicitDefEqProofs only [W2, ↓D2, ↓DC, QX, leaf_some, isNormal, Int.reduceToNat, id_eq, Int.reduceBEq, Int.reduceLE, Int.reduceLT, Nat.reduceAdd, Nat.reduceEqDiff, Nat.reduceLT, Nat.reduceLeDiff, Nat.reduceMul, Nat.reduceSub, reduceIte]
    repeat' (split <;> (rename_i h; (try simp -implicitDefEqProofs only [Bool.not_eq_true', Bool.not_eq_false', decide_eq_true_eq, decide_eq_false_iff_not] at h); (try simp -implicitDefEqProofs only [W2, ↓D2, ↓DC, QX, *, leaf_some, isNormal, Int.reduceToNat, id_eq, Int.reduceBEq, Int.reduceLE, Int.reduceLT, Nat.reduceAdd, Nat.reduceEqDiff, Nat.reduceLT, Nat.reduceLeDiff, Nat.reduceMul, Nat.reduceSub, reduceIte])))
  · intro pre c r b hs' _
    have hx := (at_row hs' hs).1; have hc := (at_row hs' hs).2.1; have hlt := (at_row hs' hs).2.2.1; have hw1 := (at_row hs' hs).2.2.2.1
    clear hs'
    have c2 := hF c hc
    simp -implicitDefEqProofs only [enc_Cond, enc_Rule, List.cons_append, List.nil_append] at c2
    simp -implicitDefEqProofs only [W2, ↓D2, ↓DC, QX, enc_Cond, enc_Rule, hx, hlt, hw1, c2, indexStep, hmdF, hLd, hR, hB, hM, keep_93_2, leaf_some, isNormal, Int.reduceToNat, id_eq, Int.reduceBEq, Int.reduceLE, Int.reduceLT, Nat.reduceAdd, Nat.reduceEqDiff, Nat.reduceLT, Nat.reduceLeDiff, Nat.reduceMul, Nat.reduceSub, reduceIte]
    repeat' (split <;> (rename_i h; (try simp -implicitDefEqProofs only [Bool.not_eq_true', Bool.not_eq_false', decide_eq_true_eq, decide_eq_false_iff_not] at h); (try simp -implicitDefEqProofs only [W2, ↓D2, ↓DC, QX, *, enc_Cond, enc_Rule, hx, hlt, hw1, c2, indexStep, hmdF, hLd, hR, hB, hM, keep_93_2, leaf_some, isNormal, Int.reduceToNat, id_eq, Int.reduceBEq, Int.reduceLE, Int.reduceLT, Nat.reduceAdd, Nat.reduceEqDiff, Nat.reduceLT, Nat.reduceLeDiff, Nat.reduceMul, Nat.reduceSub, reduceIte])))
  · simp -implicitDefEqProofs only [firstRegion]; rw [keep_93_2]; simp -implicitDefEqProofs only [W2, ↓D2, ↓DC, hR, hB, hM, Int.reduceToNat, id_eq, Int.reduceBEq, Int.reduceLE, Int.reduceLT, Nat.reduceAdd, Nat.reduceEqDiff, Nat.reduceLT, Nat.reduceLeDiff, Nat.reduceMul, Nat.reduceSub, reduceIte]; first | done | rfl
  · rw [indexLoop]
theorem r_slices_ContainsFunc_Rule {fl : Bool} (k : Nat) (s : List Rule) (hk : 281474976710656 + 2 ≤ k) (hs : s.length ≤ 140737488355328) (F : Nat) (caps : List AV) (hP : Plain caps) (p : Rule → Bool)
    (hF : ∀ x ∈ s, run E noExt (k - 2) F ([x.enc fl] ++ caps) [] = some (.bool (p x), [])) (hmdF : E.md F = [] := by rfl) :
    run E noExt k 65 [.sl fl (s.map (Rule.enc fl)), .clo F caps] [] = some (.bool (s.any p), []) := by
  have c2 := r_slices_IndexFunc_Rule (fl := fl) (k - 1) s (by omega) hs F caps hP p (by rw [show k - 1 - 1 = k - 2 by omega]; exact hF) hmdF
  have hR := hP.rows; have hB := hP.boxes; have hM := hP.map; have hLd := hP.lend
  clear hF
  obtain ⟨k, rfl⟩ : ∃ j, k = j + 1 := ⟨k - 1, by omega⟩
  rw [run_succ rfl rfl, body_eq (nt := 9) (fn := Go.Proofs.Tryz.f65) (by kernel_rfl) rfl rfl rfl rfl rfl rfl rfl rfl]
  simp -implicitDefEqProofs only [Nat.add_sub_cancel] at c2
  simp -implicitDefEqProofs only [W1, ↓D1, ↓DC, Go.Proofs.Tryz.f65, c2, hLd, Int.reduceToNat, id_eq, Int.reduceBEq, Int.reduceLE, Int.reduceLT, Nat.reduceAdd, Nat.reduceEqDiff, Nat.reduceLT, Nat.reduceLeDiff, Nat.reduceMul, Nat.reduceSub, reduceIte]
  rw [indexBy_nonneg]
end Go.Proofs.YtokjpncehggojaaGreat.Flat
