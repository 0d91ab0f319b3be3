/-
Functions on whole numbers: what they compute.
-/
import Derived.Test.YtggkeechdakccaaFlatCF
import Derived.Test.YtggkeechdakccaaEqD
set_option linter.unusedVariables false
set_option linter.unusedSimpArgs false
namespace Go.Proofs.Ytggkeechdakccaa.Flat
def inR (n a b : Int) : Bool := decide (a ≤ n) && decide (n ≤ b)
theorem r_spec_l1In (k : Nat) (hk : 281474976710656 + 1 ≤ k) (n a b : Int) : run E noExt k 65 [.int .i64 n, .int .i64 a, .int .i64 b] [] = some (.bool (inR n a b), []) := by
  obtain ⟨k, rfl⟩ : ∃ j, k = j + 1 := ⟨k - 1, by omega⟩
  rw [run_succ rfl rfl, body_eq (nt := 15) (fn := Go.Proofs.Try.f65) (by kernel_rfl) rfl rfl rfl rfl rfl rfl rfl rfl]
  simp -implicitDefEqProofs only [↓DC, QS, ZRS, ↓ZDS, Go.Proofs.Try.f65, SS, one_ne2, num_ne2, TIS, MDS, Nat.reduceAdd, Nat.reduceEqDiff, Nat.reduceLT, Nat.reduceLeDiff, Nat.reduceMul, Nat.reduceSub, reduceIte]
  by_cases h : a ≤ n <;> simp -implicitDefEqProofs only [↓DC, QS, ZRS, ↓ZDS, h, inR, SS, one_ne2, num_ne2, TIS, MDS, Nat.reduceAdd, Nat.reduceEqDiff, Nat.reduceLT, Nat.reduceLeDiff, Nat.reduceMul, Nat.reduceSub, reduceIte]
theorem r_impl_InRange (k : Nat) (hk : 281474976710656 + 1 ≤ k) (n a b : Int) : run E noExt k 41 [.int .i64 n, .int .i64 a, .int .i64 b] [] = some (.bool (inR n a b), []) := by
  obtain ⟨k, rfl⟩ : ∃ j, k = j + 1 := ⟨k - 1, by omega⟩
  rw [run_succ rfl rfl, body_eq (nt := 15) (fn := Go.Proofs.Try.f41) (by kernel_rfl) rfl rfl rfl rfl rfl rfl rfl rfl]
  simp -implicitDefEqProofs only [↓DC, QS, ZRS, ↓ZDS, Go.Proofs.Try.f41, SS, one_ne2, num_ne2, TIS, MDS, Nat.reduceAdd, Nat.reduceEqDiff, Nat.reduceLT, Nat.reduceLeDiff, Nat.reduceMul, Nat.reduceSub, reduceIte]
  by_cases h : a ≤ n <;> simp -implicitDefEqProofs only [↓DC, QS, ZRS, ↓ZDS, h, inR, SS, one_ne2, num_ne2, TIS, MDS, Nat.reduceAdd, Nat.reduceEqDiff, Nat.reduceLT, Nat.reduceLeDiff, Nat.reduceMul, Nat.reduceSub, reduceIte]
def isT (n : Int) : Bool := inR n 0 10000
theorem r_spec_IsTime (k : Nat) (hk : 281474976710656 + 2 ≤ k) (n : Int) : run E noExt k 66 [.int .i64 n] [] = some (.bool (isT n), []) := by
  obtain ⟨k, rfl⟩ : ∃ j, k = j + 1 := ⟨k - 1, by omega⟩
  rw [run_succ rfl rfl, body_eq (nt := 5) (fn := Go.Proofs.Try.f66) (by kernel_rfl) rfl rfl rfl rfl rfl rfl rfl rfl]
  have c_spec_l1In := r_spec_l1In k (by omega)
  simp -implicitDefEqProofs only [W1, ↓D1, ↓DC, QX, Go.Proofs.Try.f66, c_spec_l1In, Int.reduceToNat, id_eq, Int.reduceBEq, Int.reduceLE, Int.reduceLT, Nat.reduceAdd, Nat.reduceEqDiff, Nat.reduceLT, Nat.reduceLeDiff, Nat.reduceMul, Nat.reduceSub, reduceIte]
  repeat' (split <;> (rename_i h; (try simp -implicitDefEqProofs only [Bool.not_eq_true', Bool.not_eq_false', decide_eq_true_eq, decide_eq_false_iff_not] at h); (try simp -implicitDefEqProofs only [W1, ↓D1, ↓DC, QX, *, c_spec_l1In, Int.reduceToNat, id_eq, Int.reduceBEq, Int.reduceLE, Int.reduceLT, Nat.reduceAdd, Nat.reduceEqDiff, Nat.reduceLT, Nat.reduceLeDiff, Nat.reduceMul, Nat.reduceSub, reduceIte])))
  rfl
theorem r_impl_IsTime (k : Nat) (hk : 281474976710656 + 2 ≤ k) (n : Int) : run E noExt k 42 [.int .i64 n] [] = some (.bool (isT n), []) := by
  obtain ⟨k, rfl⟩ : ∃ j, k = j + 1 := ⟨k - 1, by omega⟩
  rw [run_succ rfl rfl, body_eq (nt := 5) (fn := Go.Proofs.Try.f42) (by kernel_rfl) rfl rfl rfl rfl rfl rfl rfl rfl]
  have c_impl_InRange := r_impl_InRange k (by omega)
  simp -implicitDefEqProofs only [W1, ↓D1, ↓DC, QX, Go.Proofs.Try.f42, c_impl_InRange, Int.reduceToNat, id_eq, Int.reduceBEq, Int.reduceLE, Int.reduceLT, Nat.reduceAdd, Nat.reduceEqDiff, Nat.reduceLT, Nat.reduceLeDiff, Nat.reduceMul, Nat.reduceSub, reduceIte]
  repeat' (split <;> (rename_i h; (try simp -implicitDefEqProofs only [Bool.not_eq_true', Bool.not_eq_false', decide_eq_true_eq, decide_eq_false_iff_not] at h); (try simp -implicitDefEqProofs only [W1, ↓D1, ↓DC, QX, *, c_impl_InRange, Int.reduceToNat, id_eq, Int.reduceBEq, Int.reduceLE, Int.reduceLT, Nat.reduceAdd, Nat.reduceEqDiff, Nat.reduceLT, Nat.reduceLeDiff, Nat.reduceMul, Nat.reduceSub, reduceIte])))
  rfl
set_option maxRecDepth 10000
theorem r_slices_Index_Int {fl gl : Bool} (k : Nat) (hk : 281474976710656 + 1 ≤ k) (s : List Int) (hs : s.length ≤ 140737488355328) (x : Int) :
    run E noExt k 58 [.sl fl (s.map (AV.int .i64)), .int .i64 x] [] = some (.int .i64 (indexBy (fun y => decide (x = y)) 0 s), []) := by
  obtain ⟨k, rfl⟩ : ∃ j, k = j + 1 := ⟨k - 1, by omega⟩
  rw [run_succ rfl rfl, body_eq (nt := 19) (fn := Go.Proofs.Try.f58) (by kernel_rfl) rfl rfl rfl rfl rfl rfl rfl rfl]
  simp -implicitDefEqProofs only [W1, ↓D1, ↓DC, Go.Proofs.Try.f58, ifEv_bool, bne, Int.reduceToNat, id_eq, Int.reduceBEq, Int.reduceLE, Int.reduceLT, Nat.reduceAdd, Nat.reduceEqDiff, Nat.reduceLT, Nat.reduceLeDiff, Nat.reduceMul, Nat.reduceSub, reduceIte]
  rw [ev_loop]
  refine Eq.trans (loop_list (Q := fun g x => thenEnd E.P [] _ 0 (thenEv E _ _ _ _ _ (outOf 0 x)) = some (.int .i64 g, [])) s (indexStep fun y => decide (x = y)) (fun _ => -1)
    (fun i _ => { sl := [(0, .sl fl (s.map (AV.int .i64))), (1, .int .i64 x), (7, .int .i64 (s.length : Nat)), (8, .int .i64 (i : Nat))], bx := [], nx := 0, nt := 19 }) (fun _ _ => True) () ?_ ?_ (by omega) trivial ?_) ?_
  · intro b _
    simp -implicitDefEqProofs only [W2, ↓D2, ↓DC, QX, leaf_some, isNormal, Int.reduceToNat, id_eq, Int.reduceBEq, Int.reduceLE, Int.reduceLT, Nat.reduceAdd, Nat.reduceEqDiff, Nat.reduceLT, Nat.reduceLeDiff, Nat.reduceMul, Nat.reduceSub, reduceIte]
    repeat' (split <;> (rename_i h; (try simp -implicitDefEqProofs only [Bool.not_eq_true', Bool.not_eq_false', decide_eq_true_eq, decide_eq_false_iff_not] at h); (try simp -implicitDefEqProofs only [W2, ↓D2, ↓DC, QX, *, leaf_some, isNormal, Int.reduceToNat, id_eq, Int.reduceBEq, Int.reduceLE, Int.reduceLT, Nat.reduceAdd, Nat.reduceEqDiff, Nat.reduceLT, Nat.reduceLeDiff, Nat.reduceMul, Nat.reduceSub, reduceIte])))
  · intro pre c r b hs' _
    have hx := (at_row hs' hs).1; have hc := (at_row hs' hs).2.1; have hlt := (at_row hs' hs).2.2.1; have hw1 := (at_row hs' hs).2.2.2.1; have hl9 := (at_row hs' hs).2.2.2.2
    clear hs'
    have hq : decide (x = c) = (x == c) := by rw [Bool.eq_iff_iff]; simp
    simp -implicitDefEqProofs only [W2, ↓D2, ↓DC, QX, hx, hlt, hw1, hq, indexStep, keep_58_2, leaf_some, isNormal, Int.reduceToNat, id_eq, Int.reduceBEq, Int.reduceLE, Int.reduceLT, Nat.reduceAdd, Nat.reduceEqDiff, Nat.reduceLT, Nat.reduceLeDiff, Nat.reduceMul, Nat.reduceSub, reduceIte]
    repeat' (split <;> (rename_i h; (try simp -implicitDefEqProofs only [Bool.not_eq_true', Bool.not_eq_false', decide_eq_true_eq, decide_eq_false_iff_not] at h); (try simp -implicitDefEqProofs only [W2, ↓D2, ↓DC, QX, *, hx, hlt, hw1, hq, indexStep, keep_58_2, leaf_some, isNormal, Int.reduceToNat, id_eq, Int.reduceBEq, Int.reduceLE, Int.reduceLT, Nat.reduceAdd, Nat.reduceEqDiff, Nat.reduceLT, Nat.reduceLeDiff, Nat.reduceMul, Nat.reduceSub, reduceIte])))
  · simp -implicitDefEqProofs only [firstRegion]; rw [keep_58_2]; simp -implicitDefEqProofs only [W2, ↓D2, ↓DC, Int.reduceToNat, id_eq, Int.reduceBEq, Int.reduceLE, Int.reduceLT, Nat.reduceAdd, Nat.reduceEqDiff, Nat.reduceLT, Nat.reduceLeDiff, Nat.reduceMul, Nat.reduceSub, reduceIte]; first | done | rfl
  · rw [indexLoop]
theorem r_slices_Contains_Int {fl gl : Bool} (k : Nat) (hk : 281474976710656 + 2 ≤ k) (s : List Int) (hs : s.length ≤ 140737488355328) (x : Int) :
    run E noExt k 45 [.sl fl (s.map (AV.int .i64)), .int .i64 x] [] = some (.bool (s.any fun y => decide (x = y)), []) := by
  have c2 := r_slices_Index_Int (fl := fl) (gl := gl) (k - 1) (by omega) s hs x
  obtain ⟨k, rfl⟩ : ∃ j, k = j + 1 := ⟨k - 1, by omega⟩
  rw [run_succ rfl rfl, body_eq (nt := 9) (fn := Go.Proofs.Try.f45) (by kernel_rfl) rfl rfl rfl rfl rfl rfl rfl rfl]
  simp -implicitDefEqProofs only [Nat.add_sub_cancel, id_eq] at c2
  simp -implicitDefEqProofs only [W1, ↓D1, ↓DC, Go.Proofs.Try.f45, c2, Int.reduceToNat, id_eq, Int.reduceBEq, Int.reduceLE, Int.reduceLT, Nat.reduceAdd, Nat.reduceEqDiff, Nat.reduceLT, Nat.reduceLeDiff, Nat.reduceMul, Nat.reduceSub, reduceIte]
  rw [indexBy_nonneg]
theorem r_slices_IndexFunc_Fact {fl : Bool} (k : Nat) (s : List Fact) (hk : 281474976710656 + 1 ≤ k) (hs : s.length ≤ 140737488355328) (F : Nat) (caps : List AV) (hP : Plain caps) (p : Fact → Bool)
    (hF : ∀ x ∈ s, run E noExt (k - 1) F ([x.enc fl] ++ caps) [] = some (.bool (p x), [])) (hmdF : E.md F = [] := by rfl) :
    run E noExt k 47 [.sl fl (s.map (Fact.enc fl)), .clo F caps] [] = some (.int .i64 (indexBy p 0 s), []) := by
  obtain ⟨k, rfl⟩ : ∃ j, k = j + 1 := ⟨k - 1, by omega⟩
  rw [run_succ rfl rfl, body_eq (nt := 19) (fn := Go.Proofs.Try.f47) (by kernel_rfl) rfl rfl rfl rfl rfl rfl rfl rfl]
  simp -implicitDefEqProofs only [Nat.add_sub_cancel] at hF
  have hR := hP.rows; have hB := hP.boxes; have hM := hP.map; have hLd := hP.lend
  simp -implicitDefEqProofs only [W1, ↓D1, ↓DC, Go.Proofs.Try.f47, ifEv_bool, bne, hLd, Int.reduceToNat, id_eq, Int.reduceBEq, Int.reduceLE, Int.reduceLT, Nat.reduceAdd, Nat.reduceEqDiff, Nat.reduceLT, Nat.reduceLeDiff, Nat.reduceMul, Nat.reduceSub, reduceIte]
  rw [ev_loop]
  refine Eq.trans (loop_list (Q := fun g x => thenEnd E.P [] _ 0 (thenEv E _ _ _ _ _ (outOf 0 x)) = some (.int .i64 g, [])) s (indexStep p) (fun _ => -1)
    (fun i _ => { sl := [(0, .sl fl (s.map (Fact.enc fl))), (1, .clo F caps), (7, .int .i64 (s.length : Nat)), (8, .int .i64 (i : Nat))], bx := [], nx := 0, nt := 19 }) (fun _ _ => True) () ?_ ?_ (by omega) trivial ?_) ?_
  · intro b _
    simp -implicitDefEqProofs only [W2, ↓D2, ↓DC, QX, leaf_some, isNormal, Int.reduceToNat, id_eq, Int.reduceBEq, Int.reduceLE, Int.reduceLT, Nat.reduceAdd, Nat.reduceEqDiff, Nat.reduceLT, Nat.reduceLeDiff, Nat.reduceMul, Nat.reduceSub, reduceIte]
    repeat' (split <;> (rename_i h; (try simp -implicitDefEqProofs only [Bool.not_eq_true', Bool.not_eq_false', decide_eq_true_eq, decide_eq_false_iff_not] at h); (try simp -implicitDefEqProofs only [W2, ↓D2, ↓DC, QX, *, leaf_some, isNormal, Int.reduceToNat, id_eq, Int.reduceBEq, Int.reduceLE, Int.reduceLT, Nat.reduceAdd, Nat.reduceEqDiff, Nat.reduceLT, Nat.reduceLeDiff, Nat.reduceMul, Nat.reduceSub, reduceIte])))
  · intro pre c r b hs' _
    have hx := (at_row hs' hs).1; have hc := (at_row hs' hs).2.1; have hlt := (at_row hs' hs).2.2.1; have hw1 := (at_row hs' hs).2.2.2.1
    clear hs'
    have c2 := hF c hc
    simp -implicitDefEqProofs only [enc_Fact, List.cons_append, List.nil_append] at c2
    simp -implicitDefEqProofs only [W2, ↓D2, ↓DC, QX, enc_Fact, hx, hlt, hw1, c2, indexStep, hmdF, hLd, hR, hB, hM, keep_47_2, leaf_some, isNormal, Int.reduceToNat, id_eq, Int.reduceBEq, Int.reduceLE, Int.reduceLT, Nat.reduceAdd, Nat.reduceEqDiff, Nat.reduceLT, Nat.reduceLeDiff, Nat.reduceMul, Nat.reduceSub, reduceIte]
    repeat' (split <;> (rename_i h; (try simp -implicitDefEqProofs only [Bool.not_eq_true', Bool.not_eq_false', decide_eq_true_eq, decide_eq_false_iff_not] at h); (try simp -implicitDefEqProofs only [W2, ↓D2, ↓DC, QX, *, enc_Fact, hx, hlt, hw1, c2, indexStep, hmdF, hLd, hR, hB, hM, keep_47_2, leaf_some, isNormal, Int.reduceToNat, id_eq, Int.reduceBEq, Int.reduceLE, Int.reduceLT, Nat.reduceAdd, Nat.reduceEqDiff, Nat.reduceLT, Nat.reduceLeDiff, Nat.reduceMul, Nat.reduceSub, reduceIte])))
  · simp -implicitDefEqProofs only [firstRegion]; rw [keep_47_2]; simp -implicitDefEqProofs only [W2, ↓D2, ↓DC, hR, hB, hM, Int.reduceToNat, id_eq, Int.reduceBEq, Int.reduceLE, Int.reduceLT, Nat.reduceAdd, Nat.reduceEqDiff, Nat.reduceLT, Nat.reduceLeDiff, Nat.reduceMul, Nat.reduceSub, reduceIte]; first | done | rfl
  · rw [indexLoop]
def isName (n : Int) : Bool := inR n 10 49
theorem r_spec_IsName (k : Nat) (hk : 281474976710656 + 2 ≤ k) (n : Int) : run E noExt k 74 [.int .i64 n] [] = some (.bool (isName n), []) := by
  obtain ⟨k, rfl⟩ : ∃ j, k = j + 1 := ⟨k - 1, by omega⟩
  rw [run_succ rfl rfl, body_eq (nt := 5) (fn := Go.Proofs.Try.f74) (by kernel_rfl) rfl rfl rfl rfl rfl rfl rfl rfl]
  have c_spec_l1In := r_spec_l1In k (by omega)
  simp -implicitDefEqProofs only [W1, ↓D1, ↓DC, QX, Go.Proofs.Try.f74, c_spec_l1In, Int.reduceToNat, id_eq, Int.reduceBEq, Int.reduceLE, Int.reduceLT, Nat.reduceAdd, Nat.reduceEqDiff, Nat.reduceLT, Nat.reduceLeDiff, Nat.reduceMul, Nat.reduceSub, reduceIte]
  repeat' (split <;> (rename_i h; (try simp -implicitDefEqProofs only [Bool.not_eq_true', Bool.not_eq_false', decide_eq_true_eq, decide_eq_false_iff_not] at h); (try simp -implicitDefEqProofs only [W1, ↓D1, ↓DC, QX, *, c_spec_l1In, Int.reduceToNat, id_eq, Int.reduceBEq, Int.reduceLE, Int.reduceLT, Nat.reduceAdd, Nat.reduceEqDiff, Nat.reduceLT, Nat.reduceLeDiff, Nat.reduceMul, Nat.reduceSub, reduceIte])))
  rfl
theorem r_impl_IsName (k : Nat) (hk : 281474976710656 + 2 ≤ k) (n : Int) : run E noExt k 67 [.int .i64 n] [] = some (.bool (isName n), []) := by
  obtain ⟨k, rfl⟩ : ∃ j, k = j + 1 := ⟨k - 1, by omega⟩
  rw [run_succ rfl rfl, body_eq (nt := 5) (fn := Go.Proofs.Try.f67) (by kernel_rfl) rfl rfl rfl rfl rfl rfl rfl rfl]
  have c_impl_InRange := r_impl_InRange k (by omega)
  simp -implicitDefEqProofs only [W1, ↓D1, ↓DC, QX, Go.Proofs.Try.f67, c_impl_InRange, Int.reduceToNat, id_eq, Int.reduceBEq, Int.reduceLE, Int.reduceLT, Nat.reduceAdd, Nat.reduceEqDiff, Nat.reduceLT, Nat.reduceLeDiff, Nat.reduceMul, Nat.reduceSub, reduceIte]
  repeat' (split <;> (rename_i h; (try simp -implicitDefEqProofs only [Bool.not_eq_true', Bool.not_eq_false', decide_eq_true_eq, decide_eq_false_iff_not] at h); (try simp -implicitDefEqProofs only [W1, ↓D1, ↓DC, QX, *, c_impl_InRange, Int.reduceToNat, id_eq, Int.reduceBEq, Int.reduceLE, Int.reduceLT, Nat.reduceAdd, Nat.reduceEqDiff, Nat.reduceLT, Nat.reduceLeDiff, Nat.reduceMul, Nat.reduceSub, reduceIte])))
  rfl
def kindOf (n : Int) : Int := if isName n = true then IntKind.i64.wrap (n.tdiv 10) else 0
def hasKind (n k : Int) : Bool := isName n && (IntKind.i64.wrap (n.tdiv 10) == k)
theorem r_impl_KindOf (k : Nat) (hk : 281474976710656 + 3 ≤ k) (n : Int) : run E noExt k 68 [.int .i64 n] [] = some (.int .i64 (kindOf n), []) := by
  obtain ⟨k, rfl⟩ : ∃ j, k = j + 1 := ⟨k - 1, by omega⟩
  rw [run_succ rfl rfl, body_eq (nt := 8) (fn := Go.Proofs.Try.f68) (by kernel_rfl) rfl rfl rfl rfl rfl rfl rfl rfl]
  have c_impl_IsName := r_impl_IsName k (by omega)
  simp -implicitDefEqProofs only [W1, ↓D1, ↓DC, QX, Go.Proofs.Try.f68, c_impl_IsName, Int.reduceToNat, id_eq, Int.reduceBEq, Int.reduceLE, Int.reduceLT, Nat.reduceAdd, Nat.reduceEqDiff, Nat.reduceLT, Nat.reduceLeDiff, Nat.reduceMul, Nat.reduceSub, reduceIte]
  repeat' (split <;> (rename_i h; (try simp -implicitDefEqProofs only [Bool.not_eq_true', Bool.not_eq_false', decide_eq_true_eq, decide_eq_false_iff_not] at h); (try simp -implicitDefEqProofs only [W1, ↓D1, ↓DC, QX, *, c_impl_IsName, Int.reduceToNat, id_eq, Int.reduceBEq, Int.reduceLE, Int.reduceLT, Nat.reduceAdd, Nat.reduceEqDiff, Nat.reduceLT, Nat.reduceLeDiff, Nat.reduceMul, Nat.reduceSub, reduceIte])))
  all_goals simp -implicitDefEqProofs only [kindOf, *, reduceIte, Bool.false_eq_true]
theorem r_spec_HasKind (k : Nat) (hk : 281474976710656 + 3 ≤ k) (n j : Int) : run E noExt k 64 [.int .i64 n, .int .i64 j] [] = some (.bool (hasKind n j), []) := by
  obtain ⟨k, rfl⟩ : ∃ j, k = j + 1 := ⟨k - 1, by omega⟩
  rw [run_succ rfl rfl, body_eq (nt := 13) (fn := Go.Proofs.Try.f64) (by kernel_rfl) rfl rfl rfl rfl rfl rfl rfl rfl]
  have c_spec_IsName := r_spec_IsName k (by omega)
  simp -implicitDefEqProofs only [W1, ↓D1, ↓DC, QX, Go.Proofs.Try.f64, c_spec_IsName, Int.reduceToNat, id_eq, Int.reduceBEq, Int.reduceLE, Int.reduceLT, Nat.reduceAdd, Nat.reduceEqDiff, Nat.reduceLT, Nat.reduceLeDiff, Nat.reduceMul, Nat.reduceSub, reduceIte]
  repeat' (split <;> (rename_i h; (try simp -implicitDefEqProofs only [Bool.not_eq_true', Bool.not_eq_false', decide_eq_true_eq, decide_eq_false_iff_not] at h); (try simp -implicitDefEqProofs only [W1, ↓D1, ↓DC, QX, *, c_spec_IsName, Int.reduceToNat, id_eq, Int.reduceBEq, Int.reduceLE, Int.reduceLT, Nat.reduceAdd, Nat.reduceEqDiff, Nat.reduceLT, Nat.reduceLeDiff, Nat.reduceMul, Nat.reduceSub, reduceIte])))
  all_goals simp -implicitDefEqProofs only [hasKind, *, Bool.true_and, Bool.false_and]
theorem r_impl_HasKind (k : Nat) (hk : 281474976710656 + 4 ≤ k) (n j : Int) : run E noExt k 56 [.int .i64 n, .int .i64 j] [] = some (.bool (hasKind n j), []) := by
  obtain ⟨k, rfl⟩ : ∃ j, k = j + 1 := ⟨k - 1, by omega⟩
  rw [run_succ rfl rfl, body_eq (nt := 13) (fn := Go.Proofs.Try.f56) (by kernel_rfl) rfl rfl rfl rfl rfl rfl rfl rfl]
  have c_impl_IsName := r_impl_IsName k (by omega)
  have c_impl_KindOf := r_impl_KindOf k (by omega)
  simp -implicitDefEqProofs only [W1, ↓D1, ↓DC, QX, Go.Proofs.Try.f56, c_impl_IsName, c_impl_KindOf, Int.reduceToNat, id_eq, Int.reduceBEq, Int.reduceLE, Int.reduceLT, Nat.reduceAdd, Nat.reduceEqDiff, Nat.reduceLT, Nat.reduceLeDiff, Nat.reduceMul, Nat.reduceSub, reduceIte]
  repeat' (split <;> (rename_i h; (try simp -implicitDefEqProofs only [Bool.not_eq_true', Bool.not_eq_false', decide_eq_true_eq, decide_eq_false_iff_not] at h); (try simp -implicitDefEqProofs only [W1, ↓D1, ↓DC, QX, *, c_impl_IsName, c_impl_KindOf, Int.reduceToNat, id_eq, Int.reduceBEq, Int.reduceLE, Int.reduceLT, Nat.reduceAdd, Nat.reduceEqDiff, Nat.reduceLT, Nat.reduceLeDiff, Nat.reduceMul, Nat.reduceSub, reduceIte])))
  all_goals simp -implicitDefEqProofs only [hasKind, kindOf, *, Bool.true_and, Bool.false_and, reduceIte, Bool.false_eq_true]
end Go.Proofs.Ytggkeechdakccaa.Flat
namespace Go.Proofs.Ytggkeechdakccaa.Flat.Roles
def isR (z : Int) : Bool := decide (0 ≤ z) && decide (z ≤ 5)
def Edge (l : List (Int × Int)) (a b : Nat) : Prop := ∃ x ∈ l, isR x.1 = true ∧ isR x.2 = true ∧ x.1.toNat = a ∧ x.2.toNat = b
inductive Reach (l : List (Int × Int)) : Nat → Nat → Prop
  | refl (a : Nat) : Reach l a a
  | step {a b c : Nat} (h : Reach l a b) (e : Edge l b c) : Reach l a c
theorem Reach.trans {l : List (Int × Int)} {a b c : Nat} (h : Reach l a b) (h' : Reach l b c) : Reach l a c := by
  induction h' with
  | refl => exact h
  | step _ e ih => exact .step ih e
def Has (m : List Bool) (i : Nat) : Prop := m[i]? = some true
def stepS (m : List Bool) (x : Int × Int) : List Bool := if (isR x.1 && isR x.2 && (m[x.1.toNat]?).getD false) = true then m.set x.2.toNat true else m
def pass (l : List (Int × Int)) (m : List Bool) : List Bool := l.foldl stepS m
def passes (l : List (Int × Int)) : Nat → List Bool → List Bool
  | 0, m => m
  | n + 1, m => passes l n (pass l m)
theorem stepS_len {m : List Bool} {x : Int × Int} : (stepS m x).length = m.length := by unfold stepS; split <;> simp
theorem pass_len {l : List (Int × Int)} {m : List Bool} : (pass l m).length = m.length := by
  unfold pass
  induction l generalizing m with
  | nil => rfl
  | cons x l ih => rw [List.foldl_cons, ih, stepS_len]
theorem stepS_mono {m : List Bool} {x : Int × Int} {i : Nat} (h : Has m i) : Has (stepS m x) i := by
  unfold stepS Has at *
  split
  · rw [List.getElem?_set]
    split
    · have := (List.getElem?_eq_some_iff.1 h).1
      rename_i e
      simp [e, this]
    · exact h
  · exact h
theorem pass_mono {l : List (Int × Int)} {m : List Bool} {i : Nat} (h : Has m i) : Has (pass l m) i := by
  unfold pass
  induction l generalizing m with
  | nil => exact h
  | cons x l ih => exact ih (stepS_mono h)
theorem isR_le {z : Int} (h : isR z = true) : z.toNat ≤ 5 := by
  simp [isR] at h
  omega
theorem stepS_edge {m : List Bool} {x : Int × Int} (hl : m.length = 6) (h1 : isR x.1 = true) (h2 : isR x.2 = true) (h : Has m x.1.toNat) : Has (stepS m x) x.2.toNat := by
  have := isR_le h2
  unfold stepS Has at *
  rw [if_pos (by simp [h1, h2, h])]
  rw [List.getElem?_set]
  simp
  omega
theorem pass_edge {l : List (Int × Int)} {m : List Bool} {a b : Nat} (hl : m.length = 6) (h : Has m a) (e : Edge l a b) : Has (pass l m) b := by
  unfold pass
  induction l generalizing m with
  | nil => obtain ⟨x, hx, _⟩ := e; simp at hx
  | cons y l ih =>
    obtain ⟨x, hx, h1, h2, rfl, rfl⟩ := e
    rw [List.foldl_cons]
    rcases List.mem_cons.1 hx with rfl | hx
    · exact pass_mono (l := l) (stepS_edge hl h1 h2 h)
    · exact ih (by rw [stepS_len, hl]) (stepS_mono h) ⟨x, hx, h1, h2, rfl, rfl⟩
theorem stepS_sound {l : List (Int × Int)} {r : Nat} {m : List Bool} {x : Int × Int} (hx : x ∈ l) (h : ∀ i, Has m i → Reach l r i) : ∀ i, Has (stepS m x) i → Reach l r i := by
  intro i hi
  unfold stepS at hi
  split at hi
  · rename_i hc
    simp -implicitDefEqProofs only [Bool.and_eq_true] at hc
    obtain ⟨⟨h1, h2⟩, h3⟩ := hc
    unfold Has at hi
    rw [List.getElem?_set] at hi
    split at hi
    · rename_i e
      subst e
      refine .step (h _ ?_) ⟨x, hx, h1, h2, rfl, rfl⟩
      unfold Has
      cases hq : m[x.1.toNat]? with
      | none => rw [hq] at h3; simp at h3
      | some b => rw [hq] at h3; simp at h3; rw [h3]
    · exact h i hi
  · exact h i hi
theorem pass_sound {l : List (Int × Int)} {r : Nat} {m : List Bool} (h : ∀ i, Has m i → Reach l r i) : ∀ i, Has (pass l m) i → Reach l r i := by
  have key : ∀ (s : List (Int × Int)) (m : List Bool), (∀ x ∈ s, x ∈ l) → (∀ i, Has m i → Reach l r i) → ∀ i, Has (s.foldl stepS m) i → Reach l r i := by
    intro s
    induction s with
    | nil => intro m _ h; exact h
    | cons x s ih => intro m hs h; exact ih _ (fun y hy => hs y (by simp [hy])) (stepS_sound (hs x (by simp)) h)
  exact key l m (fun _ h => h) h
def cnt (m : List Bool) : Nat := m.count true
theorem stepS_cnt (m : List Bool) (x : Int × Int) : stepS m x = m ∨ cnt m < cnt (stepS m x) := by
  unfold stepS
  split
  · by_cases h : m[x.2.toNat]? = some false
    · right
      obtain ⟨h1, h2⟩ := List.getElem?_eq_some_iff.1 h
      unfold cnt
      rw [List.count_set h1, h2]
      simp
    · left
      apply List.ext_getElem?
      intro i
      rw [List.getElem?_set]
      split
      · rename_i e
        subst e
        split
        · rename_i hlt
          cases hq : m[x.2.toNat]? with
          | none => simp at hq; omega
          | some b => cases b <;> simp_all
        · rename_i hlt
          rw [List.getElem?_eq_none (by omega)]
      · rfl
  · exact .inl rfl
theorem pass_cnt (l : List (Int × Int)) (m : List Bool) : pass l m = m ∨ cnt m < cnt (pass l m) := by
  unfold pass
  induction l generalizing m with
  | nil => exact .inl rfl
  | cons x l ih =>
    rw [List.foldl_cons]
    rcases stepS_cnt m x with h | h
    · rw [h]; exact ih m
    · rcases ih (stepS m x) with h2 | h2
      · right; rw [h2]; exact h
      · right; omega
theorem passes_fix {l : List (Int × Int)} {m : List Bool} (h : pass l m = m) (n : Nat) : passes l n m = m := by
  induction n with
  | zero => rfl
  | succ n ih => rw [passes, h, ih]
theorem passes_cnt (l : List (Int × Int)) (n : Nat) (m : List Bool) : pass l (passes l n m) = passes l n m ∨ cnt m + n ≤ cnt (passes l n m) := by
  induction n generalizing m with
  | zero => exact .inr (Nat.le_refl _)
  | succ n ih =>
    rw [passes]
    rcases pass_cnt l m with h | h
    · left; rw [h, passes_fix h, h]
    · rcases ih (pass l m) with h2 | h2
      · exact .inl h2
      · right; omega
theorem passes_len {l : List (Int × Int)} {n : Nat} {m : List Bool} : (passes l n m).length = m.length := by
  induction n generalizing m with
  | zero => rfl
  | succ n ih => rw [passes, ih, pass_len]
theorem passes_mono {l : List (Int × Int)} {n : Nat} {m : List Bool} {i : Nat} (h : Has m i) : Has (passes l n m) i := by
  induction n generalizing m with
  | zero => exact h
  | succ n ih => exact ih (pass_mono h)
theorem passes_sound {l : List (Int × Int)} {n r : Nat} {m : List Bool} (h : ∀ i, Has m i → Reach l r i) : ∀ i, Has (passes l n m) i → Reach l r i := by
  induction n generalizing m with
  | zero => exact h
  | succ n ih => exact ih (pass_sound h)
def marks (l : List (Int × Int)) (r : Nat) : List Bool := passes l 6 ((List.replicate 6 false).set r true)
theorem marks_iff {l : List (Int × Int)} {r : Nat} (hr : r ≤ 5) (i : Nat) : Has (marks l r) i ↔ Reach l r i := by
  have h0 : Has ((List.replicate 6 false).set r true) r := by unfold Has; rw [List.getElem?_set]; simp; omega
  have hl : (marks l r).length = 6 := by unfold marks; rw [passes_len]; simp
  constructor
  · refine passes_sound (fun j hj => ?_) i
    unfold Has at hj
    rw [List.getElem?_set] at hj
    split at hj
    · rename_i e; subst e; exact .refl _
    · rw [List.getElem?_replicate] at hj
      split at hj <;> simp at hj
  · intro h
    have hfix : pass l (marks l r) = marks l r := by
      rcases passes_cnt l 6 ((List.replicate 6 false).set r true) with h1 | h1
      · exact h1
      · exfalso
        have h2 : cnt ((List.replicate 6 false).set r true) = 1 := by
          unfold cnt
          rw [List.count_set (by simp; omega)]
          simp [List.count_replicate]
        have h3 : cnt (passes l 6 ((List.replicate 6 false).set r true)) ≤ 6 := by
          have := List.count_le_length (a := true) (l := passes l 6 ((List.replicate 6 false).set r true))
          rw [passes_len] at this
          simpa [cnt] using this
        omega
    induction h with
    | refl => exact passes_mono h0
    | step _ e ih => rw [← hfix]; exact pass_edge hl ih e
def stepB (at' : Int) (p : List Bool × List Int) (x : Int × Int) : List Bool × List Int :=
  if (x.1 == at' && (isR x.2 && !((p.1[x.2.toNat]?).getD false))) = true then (p.1.set x.2.toNat true, p.2 ++ [x.2]) else p
def roundB (l : List (Int × Int)) (at' : Int) (p : List Bool × List Int) : List Bool × List Int := l.foldl (stepB at') p
def belowN (l : List (Int × Int)) : Nat → List Bool → List Int → List Bool
  | 0, m, _ => m
  | _, m, [] => m
  | n + 1, m, a :: t => belowN l n (roundB l a (m, t)).1 (roundB l a (m, t)).2
def below (l : List (Int × Int)) (r : Int) : List Bool := belowN l 7 (List.replicate 6 false) [r]
def Reach1 (l : List (Int × Int)) (a c : Nat) : Prop := ∃ b, Reach l a b ∧ Edge l b c
theorem stepB_len {a : Int} {p : List Bool × List Int} {x : Int × Int} : (stepB a p x).1.length = p.1.length := by unfold stepB; split <;> simp
theorem roundB_len {l : List (Int × Int)} {a : Int} {p : List Bool × List Int} : (roundB l a p).1.length = p.1.length := by
  unfold roundB
  induction l generalizing p with
  | nil => rfl
  | cons x l ih => rw [List.foldl_cons, ih, stepB_len]
theorem stepB_mono {a : Int} {p : List Bool × List Int} {x : Int × Int} {i : Nat} (h : Has p.1 i) : Has (stepB a p x).1 i := by
  unfold stepB Has at *
  split
  · simp only
    rw [List.getElem?_set]
    split
    · have := (List.getElem?_eq_some_iff.1 h).1
      rename_i e
      simp [e, this]
    · exact h
  · exact h
theorem roundB_mono {l : List (Int × Int)} {a : Int} {p : List Bool × List Int} {i : Nat} (h : Has p.1 i) : Has (roundB l a p).1 i := by
  unfold roundB
  induction l generalizing p with
  | nil => exact h
  | cons x l ih => exact ih (stepB_mono h)
theorem stepB_todo {a : Int} {p : List Bool × List Int} {x : Int × Int} {z : Int} (h : z ∈ p.2) : z ∈ (stepB a p x).2 := by unfold stepB; split <;> simp [h]
theorem roundB_todo {l : List (Int × Int)} {a : Int} {p : List Bool × List Int} {z : Int} (h : z ∈ p.2) : z ∈ (roundB l a p).2 := by
  unfold roundB
  induction l generalizing p with
  | nil => exact h
  | cons x l ih => exact ih (stepB_todo h)
theorem stepB_new {a : Int} {p : List Bool × List Int} {x : Int × Int} {i : Nat} (h : Has (stepB a p x).1 i) : Has p.1 i ∨ ∃ z ∈ (stepB a p x).2, isR z = true ∧ z.toNat = i := by
  unfold stepB Has at *
  split at h
  · rename_i hc
    simp only at h
    rw [List.getElem?_set] at h
    split at h
    · rename_i e
      right
      rw [if_pos hc]
      simp -implicitDefEqProofs only [Bool.and_eq_true] at hc
      exact ⟨x.2, by simp, hc.2.1, e⟩
    · exact .inl h
  · exact .inl h
theorem roundB_new {l : List (Int × Int)} {a : Int} {p : List Bool × List Int} {i : Nat} (h : Has (roundB l a p).1 i) : Has p.1 i ∨ ∃ z ∈ (roundB l a p).2, isR z = true ∧ z.toNat = i := by
  unfold roundB at *
  induction l generalizing p with
  | nil => exact .inl h
  | cons x l ih =>
    rcases ih h with h1 | h1
    · rcases stepB_new h1 with h2 | ⟨z, hz, h2⟩
      · exact .inl h2
      · exact .inr ⟨z, roundB_todo (l := l) hz, h2⟩
    · exact .inr h1
theorem getD_false {m : List Bool} {i : Nat} (hl : i < m.length) : (m[i]?).getD false = true ∨ m[i]? = some false := by
  rw [List.getElem?_eq_getElem hl]
  cases m[i] <;> simp
theorem stepB_cnt {a : Int} {p : List Bool × List Int} {x : Int × Int} (hl : p.1.length = 6) : cnt p.1 + (stepB a p x).2.length = cnt (stepB a p x).1 + p.2.length := by
  unfold stepB
  split
  · rename_i hc
    simp -implicitDefEqProofs only [Bool.and_eq_true, Bool.not_eq_true'] at hc
    have h5 := isR_le hc.2.1
    have h6 : x.2.toNat < p.1.length := by omega
    rcases getD_false h6 with h | h
    · rw [hc.2.2] at h; simp at h
    · have h7 := (List.getElem?_eq_some_iff.1 h).2
      unfold cnt
      rw [List.count_set h6, h7]
      simp
      omega
  · rfl
theorem roundB_cnt {l : List (Int × Int)} {a : Int} {p : List Bool × List Int} (hl : p.1.length = 6) : cnt p.1 + (roundB l a p).2.length = cnt (roundB l a p).1 + p.2.length := by
  unfold roundB
  induction l generalizing p with
  | nil => rfl
  | cons x l ih =>
    rw [List.foldl_cons]
    have h1 := stepB_cnt (a := a) (x := x) hl
    have h2 := ih (p := stepB a p x) (by rw [stepB_len, hl])
    omega
theorem stepB_edge {a : Int} {p : List Bool × List Int} {x : Int × Int} (hl : p.1.length = 6) (h1 : x.1 = a) (h2 : isR x.2 = true) : Has (stepB a p x).1 x.2.toNat := by
  have h5 := isR_le h2
  have h6 : x.2.toNat < p.1.length := by omega
  unfold stepB Has
  rcases getD_false h6 with h | h
  · rw [if_neg (by simp [h])]
    cases hq : p.1[x.2.toNat]? with
    | none => rw [hq] at h; simp at h
    | some b => rw [hq] at h; simp at h; rw [h]
  · rw [if_pos (by simp [h, h1, h2])]
    simp only
    rw [List.getElem?_set]
    simp [h6]
theorem toNat_inj {x y : Int} (hx : isR x = true) (hy : isR y = true) (h : x.toNat = y.toNat) : x = y := by
  simp [isR] at hx hy
  omega
theorem roundB_edge {l : List (Int × Int)} {a : Int} {p : List Bool × List Int} {b : Nat} (hl : p.1.length = 6) (ha : isR a = true) (e : Edge l a.toNat b) : Has (roundB l a p).1 b := by
  unfold roundB
  induction l generalizing p with
  | nil => obtain ⟨x, hx, _⟩ := e; simp at hx
  | cons y l ih =>
    obtain ⟨x, hx, h1, h2, h3, rfl⟩ := e
    rw [List.foldl_cons]
    rcases List.mem_cons.1 hx with rfl | hx
    · exact roundB_mono (l := l) (stepB_edge hl (toNat_inj h1 ha h3) h2)
    · exact ih (by rw [stepB_len, hl]) ⟨x, hx, h1, h2, h3, rfl⟩
def Sound (l : List (Int × Int)) (r : Nat) (p : List Bool × List Int) : Prop := (∀ i, Has p.1 i → Reach1 l r i) ∧ ∀ z ∈ p.2, isR z = true ∧ Reach l r z.toNat
theorem stepB_sound {l : List (Int × Int)} {r : Nat} {a : Int} {p : List Bool × List Int} {x : Int × Int} (hx : x ∈ l) (ha : isR a = true) (hr : Reach l r a.toNat) (h : Sound l r p) : Sound l r (stepB a p x) := by
  unfold stepB
  split
  · rename_i hc
    simp -implicitDefEqProofs only [Bool.and_eq_true, beq_iff_eq] at hc
    have e : Edge l a.toNat x.2.toNat := ⟨x, hx, by rw [hc.1]; exact ha, hc.2.1, by rw [hc.1], rfl⟩
    refine ⟨fun i hi => ?_, fun z hz => ?_⟩
    · unfold Has at hi
      simp only at hi
      rw [List.getElem?_set] at hi
      split at hi
      · rename_i e2; subst e2; exact ⟨_, hr, e⟩
      · exact h.1 i hi
    · rcases List.mem_append.1 hz with hz | hz
      · exact h.2 z hz
      · obtain rfl := List.mem_singleton.1 hz
        exact ⟨hc.2.1, .step hr e⟩
  · exact h
theorem roundB_sound {l : List (Int × Int)} {r : Nat} {a : Int} {p : List Bool × List Int} (ha : isR a = true) (hr : Reach l r a.toNat) (h : Sound l r p) : Sound l r (roundB l a p) := by
  have key : ∀ (s : List (Int × Int)) (p : List Bool × List Int), (∀ x ∈ s, x ∈ l) → Sound l r p → Sound l r (s.foldl (stepB a) p) := by
    intro s
    induction s with
    | nil => intro p _ h; exact h
    | cons x s ih => intro p hs h; exact ih _ (fun y hy => hs y (by simp [hy])) (stepB_sound (hs x (by simp)) ha hr h)
  exact key l p (fun _ h => h) h
def Full (l : List (Int × Int)) (r : Nat) (p : List Bool × List Int) : Prop := ∀ i, (Has p.1 i ∨ i = r) → (∃ z ∈ p.2, isR z = true ∧ z.toNat = i) ∨ ∀ b, Edge l i b → Has p.1 b
theorem round_full {l : List (Int × Int)} {r : Nat} {a : Int} {m : List Bool} {t : List Int} (hl : m.length = 6) (ha : isR a = true) (h : Full l r (m, a :: t)) : Full l r (roundB l a (m, t)) := by
  intro i hi
  have old : (Has m i ∨ i = r) → (∃ z ∈ (roundB l a (m, t)).2, isR z = true ∧ z.toNat = i) ∨ ∀ b, Edge l i b → Has (roundB l a (m, t)).1 b := by
    intro hi
    rcases h i hi with ⟨z, hz, h1, h2⟩ | h1
    · rcases List.mem_cons.1 hz with rfl | hz
      · right
        intro b e
        exact roundB_edge (p := (m, t)) hl h1 (by rw [h2]; exact e)
      · exact .inl ⟨z, roundB_todo (p := (m, t)) hz, h1, h2⟩
    · exact .inr fun b e => roundB_mono (p := (m, t)) (h1 b e)
  rcases hi with hi | hi
  · rcases roundB_new hi with h1 | h1
    · exact old (.inl h1)
    · exact .inl h1
  · exact old (.inr hi)
def left (p : List Bool × List Int) : Nat := 6 - cnt p.1 + p.2.length
theorem cnt_le {m : List Bool} (hl : m.length = 6) : cnt m ≤ 6 := by
  have := List.count_le_length (a := true) (l := m)
  rw [hl] at this
  exact this
theorem round_left {l : List (Int × Int)} {a : Int} {m : List Bool} {t : List Int} (hl : m.length = 6) : left (roundB l a (m, t)) + 1 = left (m, a :: t) := by
  have h1 := roundB_cnt (l := l) (a := a) (p := (m, t)) hl
  have h2 := cnt_le hl
  have h3 := cnt_le (m := (roundB l a (m, t)).1) (by rw [roundB_len]; exact hl)
  simp -implicitDefEqProofs only [left, List.length_cons] at *
  omega
def ends (l : List (Int × Int)) (p : List Bool × List Int) : List Bool := belowN l (left p) p.1 p.2
theorem ends_nil {l : List (Int × Int)} {m : List Bool} : ends l (m, []) = m := by
  unfold ends
  cases left (m, []) <;> rfl
theorem ends_cons {l : List (Int × Int)} {a : Int} {m : List Bool} {t : List Int} (hl : m.length = 6) : ends l (roundB l a (m, t)) = ends l (m, a :: t) := by
  have h := round_left (l := l) (a := a) (t := t) hl
  unfold ends
  rw [← h]
  rfl
theorem ends_iff {l : List (Int × Int)} {r : Nat} : ∀ (n : Nat) (p : List Bool × List Int), left p = n → p.1.length = 6 → Sound l r p → Full l r p → (ends l p).length = 6 ∧ ∀ i, Has (ends l p) i ↔ Reach1 l r i := by
  intro n
  induction n with
  | zero =>
    rintro ⟨m, t⟩ hn hl hs hf
    cases t with
    | cons a t => simp [left] at hn
    | nil =>
      rw [ends_nil]
      refine ⟨hl, fun i => ⟨hs.1 i, ?_⟩⟩
      rintro ⟨b, hb, e⟩
      have hall : ∀ b, Reach l r b → Has m b ∨ b = r := by
        intro b hb
        induction hb with
        | refl => exact .inr rfl
        | step _ e ih =>
          rcases hf _ ih with ⟨z, hz, _⟩ | h
          · simp at hz
          · exact .inl (h _ e)
      rcases hf b (hall b hb) with ⟨z, hz, _⟩ | h
      · simp at hz
      · exact h i e
  | succ n ih =>
    rintro ⟨m, t⟩ hn hl hs hf
    cases t with
    | nil =>
      rw [ends_nil]
      refine ⟨hl, fun i => ⟨hs.1 i, ?_⟩⟩
      rintro ⟨b, hb, e⟩
      have hall : ∀ b, Reach l r b → Has m b ∨ b = r := by
        intro b hb
        induction hb with
        | refl => exact .inr rfl
        | step _ e ih =>
          rcases hf _ ih with ⟨z, hz, _⟩ | h
          · simp at hz
          · exact .inl (h _ e)
      rcases hf b (hall b hb) with ⟨z, hz, _⟩ | h
      · simp at hz
      · exact h i e
    | cons a t =>
      obtain ⟨h1, h2⟩ := hs.2 a (by simp)
      have h3 := round_left (l := l) (a := a) (t := t) hl
      rw [← ends_cons hl]
      exact ih _ (by
        have h4 : left (roundB l a (m, t)) + 1 = n + 1 := h3.trans hn
        exact Nat.succ.inj h4) (by rw [roundB_len]; exact hl) (roundB_sound h1 h2 ⟨hs.1, fun z hz => hs.2 z (by simp [hz])⟩) (round_full hl h1 hf)
theorem start_iff {l : List (Int × Int)} {r : Int} (hr : isR r = true) : (ends l (List.replicate 6 false, [r])).length = 6 ∧ ∀ i, Has (ends l (List.replicate 6 false, [r])) i ↔ Reach1 l r.toNat i := by
  have hno : ∀ i, ¬ Has (List.replicate 6 false) i := by
    intro i h
    unfold Has at h
    rw [List.getElem?_replicate] at h
    split at h <;> simp at h
  refine ends_iff _ _ rfl (by simp) ⟨fun i hi => absurd hi (hno i), fun z hz => ?_⟩ (fun i hi => ?_)
  · obtain rfl := List.mem_singleton.1 hz
    exact ⟨hr, .refl _⟩
  · rcases hi with hi | rfl
    · exact absurd hi (hno i)
    · exact .inl ⟨r, by simp, hr, rfl⟩
theorem reach_iff {l : List (Int × Int)} {r i : Nat} : Reach l r i ↔ i = r ∨ Reach1 l r i := by
  constructor
  · intro h
    cases h with
    | refl => exact .inl rfl
    | step h e => exact .inr ⟨_, h, e⟩
  · rintro (rfl | ⟨b, h, e⟩)
    · exact .refl _
    · exact .step h e
end Go.Proofs.Ytggkeechdakccaa.Flat.Roles
