/-
Functions on whole numbers: what they compute.
-/
import Derived.Test.YtclpcglblcmcoaaFlatCF
import Derived.Test.YtclpcglblcmcoaaEqD
set_option linter.unusedVariables false
set_option linter.unusedSimpArgs false
namespace Go.Proofs.Ytclpcglblcmcoaa.Flat
def inR (n a b : Int) : Bool := decide (a ≤ n) && decide (n ≤ b)
theorem r_spec_l1In (k : Nat) (hk : 281474976710656 + 1 ≤ k) (n a b : Int) : run E noExt k 26 [.int .i64 n, .int .i64 a, .int .i64 b] [] = some (.bool (inR n a b), []) := by
  obtain ⟨k, rfl⟩ : ∃ j, k = j + 1 := ⟨k - 1, by omega⟩
  rw [run_succ rfl rfl, body_eq (nt := 15) (fn := Go.Proofs.Try.f26) (by kernel_rfl) rfl rfl rfl rfl rfl rfl rfl rfl]
  simp -implicitDefEqProofs only [↓DC, QS, ZRS, ↓ZDS, Go.Proofs.Try.f26, SS, one_ne2, num_ne2, TIS, MDS, Nat.reduceAdd, Nat.reduceEqDiff, Nat.reduceLT, Nat.reduceLeDiff, Nat.reduceMul, Nat.reduceSub, reduceIte]
  by_cases h : a ≤ n <;> simp -implicitDefEqProofs only [↓DC, QS, ZRS, ↓ZDS, h, inR, SS, one_ne2, num_ne2, TIS, MDS, Nat.reduceAdd, Nat.reduceEqDiff, Nat.reduceLT, Nat.reduceLeDiff, Nat.reduceMul, Nat.reduceSub, reduceIte]
theorem r_impl_InRange (k : Nat) (hk : 281474976710656 + 1 ≤ k) (n a b : Int) : run E noExt k 19 [.int .i64 n, .int .i64 a, .int .i64 b] [] = some (.bool (inR n a b), []) := by
  obtain ⟨k, rfl⟩ : ∃ j, k = j + 1 := ⟨k - 1, by omega⟩
  rw [run_succ rfl rfl, body_eq (nt := 15) (fn := Go.Proofs.Try.f19) (by kernel_rfl) rfl rfl rfl rfl rfl rfl rfl rfl]
  simp -implicitDefEqProofs only [↓DC, QS, ZRS, ↓ZDS, Go.Proofs.Try.f19, SS, one_ne2, num_ne2, TIS, MDS, Nat.reduceAdd, Nat.reduceEqDiff, Nat.reduceLT, Nat.reduceLeDiff, Nat.reduceMul, Nat.reduceSub, reduceIte]
  by_cases h : a ≤ n <;> simp -implicitDefEqProofs only [↓DC, QS, ZRS, ↓ZDS, h, inR, SS, one_ne2, num_ne2, TIS, MDS, Nat.reduceAdd, Nat.reduceEqDiff, Nat.reduceLT, Nat.reduceLeDiff, Nat.reduceMul, Nat.reduceSub, reduceIte]
def isT (n : Int) : Bool := inR n 0 10000
set_option maxRecDepth 10000
theorem eqb_Choice (x y : Choice) : decide (x = y) = ((x.atom == y.atom) && ((x.low == y.low) && (x.high == y.high))) := by
  cases x; cases y
  rw [Bool.eq_iff_iff]
  simp [Choice.mk.injEq]
theorem r_slices_Index_Choice {fl gl : Bool} (k : Nat) (hk : 281474976710656 + 1 ≤ k) (s : List Choice) (hs : s.length ≤ 140737488355328) (x : Choice) :
    run E noExt k 32 [.sl fl (s.map (Choice.enc fl)), x.enc gl] [] = some (.int .i64 (indexBy (fun y => decide (x = y)) 0 s), []) := by
  obtain ⟨k, rfl⟩ : ∃ j, k = j + 1 := ⟨k - 1, by omega⟩
  rw [run_succ rfl rfl, body_eq (nt := 19) (fn := Go.Proofs.Try.f32) (by kernel_rfl) rfl rfl rfl rfl rfl rfl rfl rfl]
  simp -implicitDefEqProofs only [W1, ↓D1, ↓DC, Go.Proofs.Try.f32, enc_Choice, ifEv_bool, bne, Int.reduceToNat, id_eq, Int.reduceBEq, Int.reduceLE, Int.reduceLT, Nat.reduceAdd, Nat.reduceEqDiff, Nat.reduceLT, Nat.reduceLeDiff, Nat.reduceMul, Nat.reduceSub, reduceIte]
  rw [ev_loop]
  refine Eq.trans (loop_list (Q := fun g x => thenEnd E.P [] _ 0 (thenEv E _ _ _ _ _ (outOf 0 x)) = some (.int .i64 g, [])) s (indexStep fun y => decide (x = y)) (fun _ => -1)
    (fun i _ => { sl := [(0, .sl fl (s.map (Choice.enc fl))), (3, .ptr 0 0), (7, .int .i64 (s.length : Nat)), (8, .int .i64 (i : Nat))], bx := [(0, [.int .i64 x.atom, .int .i64 x.low, .int .i64 x.high])], nx := 1, nt := 19 }) (fun _ _ => True) () ?_ ?_ (by omega) trivial ?_) ?_
  · intro b _
    simp -implicitDefEqProofs only [W2, ↓D2, ↓DC, QX, leaf_some, isNormal, Int.reduceToNat, id_eq, Int.reduceBEq, Int.reduceLE, Int.reduceLT, Nat.reduceAdd, Nat.reduceEqDiff, Nat.reduceLT, Nat.reduceLeDiff, Nat.reduceMul, Nat.reduceSub, reduceIte]
    repeat' (split <;> (rename_i h; (try simp -implicitDefEqProofs only [Bool.not_eq_true', Bool.not_eq_false', decide_eq_true_eq, decide_eq_false_iff_not] at h); (try simp -implicitDefEqProofs only [W2, ↓D2, ↓DC, QX, *, leaf_some, isNormal, Int.reduceToNat, id_eq, Int.reduceBEq, Int.reduceLE, Int.reduceLT, Nat.reduceAdd, Nat.reduceEqDiff, Nat.reduceLT, Nat.reduceLeDiff, Nat.reduceMul, Nat.reduceSub, reduceIte])))
  · intro pre c r b hs' _
    have hx := (at_row hs' hs).1; have hc := (at_row hs' hs).2.1; have hlt := (at_row hs' hs).2.2.1; have hw1 := (at_row hs' hs).2.2.2.1; have hl9 := (at_row hs' hs).2.2.2.2
    clear hs'
    have hq := eqb_Choice x c
    simp -implicitDefEqProofs only [W2, ↓D2, ↓DC, QX, enc_Choice, hx, hlt, hw1, hq, indexStep, plan_32_4, keep_32_2, leaf_some, isNormal, Int.reduceToNat, id_eq, Int.reduceBEq, Int.reduceLE, Int.reduceLT, Nat.reduceAdd, Nat.reduceEqDiff, Nat.reduceLT, Nat.reduceLeDiff, Nat.reduceMul, Nat.reduceSub, reduceIte]
    repeat' (split <;> (rename_i h; (try simp -implicitDefEqProofs only [Bool.not_eq_true', Bool.not_eq_false', decide_eq_true_eq, decide_eq_false_iff_not] at h); (try simp -implicitDefEqProofs only [W2, ↓D2, ↓DC, QX, *, enc_Choice, hx, hlt, hw1, hq, indexStep, plan_32_4, keep_32_2, leaf_some, isNormal, Int.reduceToNat, id_eq, Int.reduceBEq, Int.reduceLE, Int.reduceLT, Nat.reduceAdd, Nat.reduceEqDiff, Nat.reduceLT, Nat.reduceLeDiff, Nat.reduceMul, Nat.reduceSub, reduceIte])))
  · simp -implicitDefEqProofs only [firstRegion]; rw [keep_32_2]; simp -implicitDefEqProofs only [W2, ↓D2, ↓DC, enc_Choice, Int.reduceToNat, id_eq, Int.reduceBEq, Int.reduceLE, Int.reduceLT, Nat.reduceAdd, Nat.reduceEqDiff, Nat.reduceLT, Nat.reduceLeDiff, Nat.reduceMul, Nat.reduceSub, reduceIte]; first | done | rfl
  · rw [indexLoop]
theorem r_slices_Contains_Choice {fl gl : Bool} (k : Nat) (hk : 281474976710656 + 2 ≤ k) (s : List Choice) (hs : s.length ≤ 140737488355328) (x : Choice) :
    run E noExt k 33 [.sl fl (s.map (Choice.enc fl)), x.enc gl] [] = some (.bool (s.any fun y => decide (x = y)), []) := by
  have c2 := r_slices_Index_Choice (fl := fl) (gl := gl) (k - 1) (by omega) s hs x
  obtain ⟨k, rfl⟩ : ∃ j, k = j + 1 := ⟨k - 1, by omega⟩
  rw [run_succ rfl rfl, body_eq (nt := 9) (fn := Go.Proofs.Try.f33) (by kernel_rfl) rfl rfl rfl rfl rfl rfl rfl rfl]
  simp -implicitDefEqProofs only [Nat.add_sub_cancel, enc_Choice, id_eq] at c2
  simp -implicitDefEqProofs only [W1, ↓D1, ↓DC, Go.Proofs.Try.f33, enc_Choice, c2, Int.reduceToNat, id_eq, Int.reduceBEq, Int.reduceLE, Int.reduceLT, Nat.reduceAdd, Nat.reduceEqDiff, Nat.reduceLT, Nat.reduceLeDiff, Nat.reduceMul, Nat.reduceSub, reduceIte]
  rw [indexBy_nonneg]
end Go.Proofs.Ytclpcglblcmcoaa.Flat
