/-
What is handed: counted.
-/
import Derived.Test.YtaojmienjikfbaaGreatDoorFlatCF
import Derived.Test.YtaojmienjikfbaaGreatDoorEqD
set_option linter.unusedVariables false
set_option linter.unusedSimpArgs false
set_option maxRecDepth 10000
namespace Go.Proofs.YtaojmienjikfbaaGreatDoor.Flat
theorem r_laws_szIncludesS {fl : Bool} (k : Nat) (s : List Includes) (hk : 281474976710656 + 1 ≤ k) (hf : FitL (fun _ => True) s) (m : Int) (hm : -1 ≤ m) (hm2 : m ≤ 1048576) :
    run E noExt k 5 [.sl fl (s.map (Includes.enc fl)), .int .i64 m] [] = some (.int .i64 (left m (s.length)), []) := by
  obtain ⟨k, rfl⟩ : ∃ j, k = j + 1 := ⟨k - 1, by omega⟩
  rw [run_succ rfl rfl, body_eq (nt := 12) (fn := Go.Proofs.Tryz.f5) (by kernel_rfl) rfl rfl rfl rfl rfl rfl rfl rfl]
  have hs : s.length ≤ 140737488355328 := hf.1
  have hw : IntKind.i64.wrap (m - (s.length : Int)) = m - s.length := IntWalk.i64_in _ (by omega)
  simp -implicitDefEqProofs only [W1, ↓D1, ↓DC, QX, Go.Proofs.Tryz.f5, hw, Int.reduceToNat, id_eq, Int.reduceBEq, Int.reduceLE, Int.reduceLT, Nat.reduceAdd, Nat.reduceEqDiff, Nat.reduceLT, Nat.reduceLeDiff, Nat.reduceMul, Nat.reduceSub, reduceIte]
  repeat' (split <;> (rename_i h; (try simp -implicitDefEqProofs only [Bool.not_eq_true', Bool.not_eq_false', decide_eq_true_eq, decide_eq_false_iff_not] at h); (try simp -implicitDefEqProofs only [W1, ↓D1, ↓DC, QX, *, hw, Int.reduceToNat, id_eq, Int.reduceBEq, Int.reduceLE, Int.reduceLT, Nat.reduceAdd, Nat.reduceEqDiff, Nat.reduceLT, Nat.reduceLeDiff, Nat.reduceMul, Nat.reduceSub, reduceIte])))
  · rw [left_gt (by omega)]
  · rw [left_le (by omega)]
theorem r_laws_szFactS {fl : Bool} (k : Nat) (s : List Fact) (hk : 281474976710656 + 1 ≤ k) (hf : FitL (fun _ => True) s) (m : Int) (hm : -1 ≤ m) (hm2 : m ≤ 1048576) :
    run E noExt k 6 [.sl fl (s.map (Fact.enc fl)), .int .i64 m] [] = some (.int .i64 (left m (s.length)), []) := by
  obtain ⟨k, rfl⟩ : ∃ j, k = j + 1 := ⟨k - 1, by omega⟩
  rw [run_succ rfl rfl, body_eq (nt := 12) (fn := Go.Proofs.Tryz.f6) (by kernel_rfl) rfl rfl rfl rfl rfl rfl rfl rfl]
  have hs : s.length ≤ 140737488355328 := hf.1
  have hw : IntKind.i64.wrap (m - (s.length : Int)) = m - s.length := IntWalk.i64_in _ (by omega)
  simp -implicitDefEqProofs only [W1, ↓D1, ↓DC, QX, Go.Proofs.Tryz.f6, hw, Int.reduceToNat, id_eq, Int.reduceBEq, Int.reduceLE, Int.reduceLT, Nat.reduceAdd, Nat.reduceEqDiff, Nat.reduceLT, Nat.reduceLeDiff, Nat.reduceMul, Nat.reduceSub, reduceIte]
  repeat' (split <;> (rename_i h; (try simp -implicitDefEqProofs only [Bool.not_eq_true', Bool.not_eq_false', decide_eq_true_eq, decide_eq_false_iff_not] at h); (try simp -implicitDefEqProofs only [W1, ↓D1, ↓DC, QX, *, hw, Int.reduceToNat, id_eq, Int.reduceBEq, Int.reduceLE, Int.reduceLT, Nat.reduceAdd, Nat.reduceEqDiff, Nat.reduceLT, Nat.reduceLeDiff, Nat.reduceMul, Nat.reduceSub, reduceIte])))
  · rw [left_gt (by omega)]
  · rw [left_le (by omega)]
theorem r_laws_szCondS0 {fl : Bool} (k : Nat) (s : List Cond) (hk : 281474976710656 + 4 * wl Cond.w s + 1 ≤ k) (hf : FitL Cond.fits s) (c1 : ∀ c ∈ s, ∀ m : Int, -1 ≤ m → m ≤ 1048576 → run E noExt (k - 1) 68 [c.enc fl, .int .i64 m] [] = some (.int .i64 (left m c.w), [])) (m : Int) (hm : -1 ≤ m) (hm2 : m ≤ 1048576) :
    run E noExt k 94 [.sl fl (s.map (Cond.enc fl)), .int .i64 m] [] = some (.int .i64 (left m (wl Cond.w s)), []) := by
  obtain ⟨k, rfl⟩ : ∃ j, k = j + 1 := ⟨k - 1, by omega⟩
  rw [run_succ rfl rfl, body_eq (nt := 27) (fn := Go.Proofs.Tryz.f94) (by kernel_rfl) rfl rfl rfl rfl rfl rfl rfl rfl]
  simp -implicitDefEqProofs only [Nat.add_sub_cancel] at c1
  have hs := hf.1
  have hwl := wl_length Cond.w s
  have hw : IntKind.i64.wrap (m - (s.length : Int)) = m - s.length := IntWalk.i64_in _ (by omega)
  simp -implicitDefEqProofs only [W1, ↓D1, ↓DC, Go.Proofs.Tryz.f94, hw, ifEv_bool, Int.reduceToNat, id_eq, Int.reduceBEq, Int.reduceLE, Int.reduceLT, Nat.reduceAdd, Nat.reduceEqDiff, Nat.reduceLT, Nat.reduceLeDiff, Nat.reduceMul, Nat.reduceSub, reduceIte]
  split
  · rename_i h
    have h' : m - (s.length : Int) < 0 := of_decide_eq_true h
    simp -implicitDefEqProofs only [↓DC, QS, ZRS, ↓ZDS, h, SS, one_ne2, num_ne2, TIS, MDS, Nat.reduceAdd, Nat.reduceEqDiff, Nat.reduceLT, Nat.reduceLeDiff, Nat.reduceMul, Nat.reduceSub, reduceIte]
    rw [left_gt (by omega)]
  · rename_i h
    simp -implicitDefEqProofs only [↓DC, QS, ZRS, ↓ZDS, h, SS, one_ne2, num_ne2, TIS, MDS, Nat.reduceAdd, Nat.reduceEqDiff, Nat.reduceLT, Nat.reduceLeDiff, Nat.reduceMul, Nat.reduceSub, reduceIte]
    have h' : ¬ (m - (s.length : Int) < 0) := of_decide_eq_false h
    rw [ev_loop]
    refine Eq.trans (loop_list (Q := fun g x => thenEnd E.P [] _ 0 (thenEv E _ _ _ _ _ (outOf 0 x)) = some (.int .i64 g, [])) s (szStep Cond.w) id
      (fun i m => { sl := [(0, .sl fl (s.map (Cond.enc fl))), (1, .int .i64 m), (5, .int .i64 (i : Nat))], bx := [], nx := 0, nt := 27 }) (fun i m => 0 ≤ m ∧ m ≤ 1048576) (m - s.length) ?_ ?_ (by omega) ⟨by omega, by omega⟩ ?_) ?_
    · intro m ⟨h1, h2⟩
      simp -implicitDefEqProofs only [W2, ↓D2, ↓DC, QX, leaf_some, isNormal, Int.reduceToNat, id_eq, Int.reduceBEq, Int.reduceLE, Int.reduceLT, Nat.reduceAdd, Nat.reduceEqDiff, Nat.reduceLT, Nat.reduceLeDiff, Nat.reduceMul, Nat.reduceSub, reduceIte]
      repeat' (split <;> (rename_i h; (try simp -implicitDefEqProofs only [Bool.not_eq_true', Bool.not_eq_false', decide_eq_true_eq, decide_eq_false_iff_not] at h); (try simp -implicitDefEqProofs only [W2, ↓D2, ↓DC, QX, *, leaf_some, isNormal, Int.reduceToNat, id_eq, Int.reduceBEq, Int.reduceLE, Int.reduceLT, Nat.reduceAdd, Nat.reduceEqDiff, Nat.reduceLT, Nat.reduceLeDiff, Nat.reduceMul, Nat.reduceSub, reduceIte])))
    · intro pre c r m hs' ⟨h1, h2⟩
      have hx := (at_row hs' hs).1; have hc := (at_row hs' hs).2.1; have hlt := (at_row hs' hs).2.2.1; have hw1 := (at_row hs' hs).2.2.2.1; have hl := (at_row hs' hs).2.2.2.2
      have c2 := c1 c hc m (by omega) h2
      simp -implicitDefEqProofs only [enc_Cond] at c2
      clear hs'
      simp -implicitDefEqProofs only [W2, ↓D2, ↓DC, QX, enc_Cond, hx, hlt, hw1, c2, szStep, keep_94_5, leaf_some, isNormal, Int.reduceToNat, id_eq, Int.reduceBEq, Int.reduceLE, Int.reduceLT, Nat.reduceAdd, Nat.reduceEqDiff, Nat.reduceLT, Nat.reduceLeDiff, Nat.reduceMul, Nat.reduceSub, reduceIte]
      repeat' (split <;> (rename_i h; (try simp -implicitDefEqProofs only [Bool.not_eq_true', Bool.not_eq_false', decide_eq_true_eq, decide_eq_false_iff_not] at h); (try simp -implicitDefEqProofs only [W2, ↓D2, ↓DC, QX, *, enc_Cond, hx, hlt, hw1, c2, szStep, keep_94_5, leaf_some, isNormal, Int.reduceToNat, id_eq, Int.reduceBEq, Int.reduceLE, Int.reduceLT, Nat.reduceAdd, Nat.reduceEqDiff, Nat.reduceLT, Nat.reduceLeDiff, Nat.reduceMul, Nat.reduceSub, reduceIte])))
      exact ⟨by omega, left_hi h2 (by omega)⟩
    · simp -implicitDefEqProofs only [firstRegion]; rw [keep_94_5]; simp -implicitDefEqProofs only [W2, ↓D2, ↓DC, Int.reduceToNat, id_eq, Int.reduceBEq, Int.reduceLE, Int.reduceLT, Nat.reduceAdd, Nat.reduceEqDiff, Nat.reduceLT, Nat.reduceLeDiff, Nat.reduceMul, Nat.reduceSub, reduceIte]; first | done | rfl
    · rw [szLoop _ _ _ _ (by omega)]
      by_cases h2 : ((wl Cond.w s : Nat) : Int) ≤ m
      · rw [left_le h2, left_le (by omega)]; congr 3; omega
      · rw [left_gt (by omega), left_gt (by omega)]
theorem r_laws_szCond {fl : Bool} (k : Nat) (x : Cond) (hk : 281474976710656 + 4 * x.w + 2 ≤ k) (hf : x.fits) (m : Int) (hm : -1 ≤ m) (hm2 : m ≤ 1048576) :
    run E noExt k 68 [x.enc fl, .int .i64 m] [] = some (.int .i64 (left m x.w), []) := by
  induction x using Cond.induct generalizing k m with
  | h x ih =>
    rw [Cond.fits_eq] at hf
    rw [x.w_eq] at hk ⊢
    have c2 := r_laws_szCondS0 (fl := fl) (k - 1) x.args (by omega) hf (fun c hc m h1 h2 => ih c hc _ (by have := wl_mem (w := Cond.w) hc; omega) (hf.2 c hc) m h1 h2) m hm hm2
    have hlo := left_lo (m := wl Cond.w x.args) hm
    obtain ⟨k, rfl⟩ : ∃ j, k = j + 1 := ⟨k - 1, by omega⟩
    rw [run_succ rfl rfl, body_eq (nt := 12) (fn := Go.Proofs.Tryz.f68) (by kernel_rfl) rfl rfl rfl rfl rfl rfl rfl rfl]
    simp -implicitDefEqProofs only [Nat.add_sub_cancel] at c2
    rw [enc_Cond]
    simp -implicitDefEqProofs only [W1, ↓D1, ↓DC, Go.Proofs.Tryz.f68, c2, ifEv_bool, Int.reduceToNat, id_eq, Int.reduceBEq, Int.reduceLE, Int.reduceLT, Nat.reduceAdd, Nat.reduceEqDiff, Nat.reduceLT, Nat.reduceLeDiff, Nat.reduceMul, Nat.reduceSub, reduceIte]
    split
    · rename_i h
      have h' := of_decide_eq_true h
      simp -implicitDefEqProofs only [↓DC, QS, ZRS, ↓ZDS, h, SS, one_ne2, num_ne2, TIS, MDS, Nat.reduceAdd, Nat.reduceEqDiff, Nat.reduceLT, Nat.reduceLeDiff, Nat.reduceMul, Nat.reduceSub, reduceIte]
      have : left m (wl Cond.w x.args) = -1 := by omega
      rw [this]
    · rename_i h
      simp -implicitDefEqProofs only [↓DC, QS, ZRS, ↓ZDS, h, SS, one_ne2, num_ne2, TIS, MDS, Nat.reduceAdd, Nat.reduceEqDiff, Nat.reduceLT, Nat.reduceLeDiff, Nat.reduceMul, Nat.reduceSub, reduceIte]
theorem r_laws_szRule {fl : Bool} (k : Nat) (x : Rule) (hk : 281474976710656 + 4 * x.w + 3 ≤ k) (hf : x.fits) (m : Int) (hm : -1 ≤ m) (hm2 : m ≤ 1048576) :
    run E noExt k 43 [x.enc fl, .int .i64 m] [] = some (.int .i64 (left m x.w), []) := by
  obtain ⟨k, rfl⟩ : ∃ j, k = j + 1 := ⟨k - 1, by omega⟩
  rw [run_succ rfl rfl, body_eq (nt := 12) (fn := Go.Proofs.Tryz.f43) (by kernel_rfl) rfl rfl rfl rfl rfl rfl rfl rfl]
  unfold Rule.w at hk ⊢
  unfold Rule.fits at hf
  have c0 := r_laws_szCond (fl := fl) k x.cond (by omega) (hf) (m) (hm) (hm2)
  simp -implicitDefEqProofs only [enc_Cond, enc_Rule] at c0
  simp -implicitDefEqProofs only [W1, ↓D1, ↓DC, enc_Rule, Go.Proofs.Tryz.f43, c0, ifEv_bool, Int.reduceToNat, id_eq, Int.reduceBEq, Int.reduceLE, Int.reduceLT, Nat.reduceAdd, Nat.reduceEqDiff, Nat.reduceLT, Nat.reduceLeDiff, Nat.reduceMul, Nat.reduceSub, reduceIte]
  split
  · rename_i h
    have h' := of_decide_eq_true h
    simp -implicitDefEqProofs only [↓DC, QS, ZRS, ↓ZDS, h, SS, one_ne2, num_ne2, TIS, MDS, Nat.reduceAdd, Nat.reduceEqDiff, Nat.reduceLT, Nat.reduceLeDiff, Nat.reduceMul, Nat.reduceSub, reduceIte]
    have hlo := left_lo (m := 0) hm
    congr 3
    unfold left at h' ⊢
    split at h' <;> split <;> omega
  · rename_i h
    simp -implicitDefEqProofs only [W1, ↓D1, ↓DC, h, c0, ifEv_bool, Int.reduceToNat, id_eq, Int.reduceBEq, Int.reduceLE, Int.reduceLT, Nat.reduceAdd, Nat.reduceEqDiff, Nat.reduceLT, Nat.reduceLeDiff, Nat.reduceMul, Nat.reduceSub, reduceIte]
    try simp -implicitDefEqProofs only [left_left hm, Nat.add_assoc]
theorem r_laws_szRuleS {fl : Bool} (k : Nat) (s : List Rule) (hk : 281474976710656 + 4 * wl Rule.w s + 4 ≤ k) (hf : FitL Rule.fits s) (m : Int) (hm : -1 ≤ m) (hm2 : m ≤ 1048576) :
    run E noExt k 23 [.sl fl (s.map (Rule.enc fl)), .int .i64 m] [] = some (.int .i64 (left m (wl Rule.w s)), []) := by
  obtain ⟨k, rfl⟩ : ∃ j, k = j + 1 := ⟨k - 1, by omega⟩
  rw [run_succ rfl rfl, body_eq (nt := 27) (fn := Go.Proofs.Tryz.f23) (by kernel_rfl) rfl rfl rfl rfl rfl rfl rfl rfl]
  have hs : s.length ≤ 140737488355328 := hf.1
  have hwl := wl_length Rule.w s
  have c1 : ∀ c ∈ s, ∀ m : Int, -1 ≤ m → m ≤ 1048576 → run E noExt k 43 [c.enc fl, .int .i64 m] [] = some (.int .i64 (left m c.w), []) := fun c hc => r_laws_szRule k c (by have := wl_mem (w := Rule.w) hc; omega) (hf.2 c hc)
  have hw : IntKind.i64.wrap (m - (s.length : Int)) = m - s.length := IntWalk.i64_in _ (by omega)
  simp -implicitDefEqProofs only [W1, ↓D1, ↓DC, Go.Proofs.Tryz.f23, hw, ifEv_bool, Int.reduceToNat, id_eq, Int.reduceBEq, Int.reduceLE, Int.reduceLT, Nat.reduceAdd, Nat.reduceEqDiff, Nat.reduceLT, Nat.reduceLeDiff, Nat.reduceMul, Nat.reduceSub, reduceIte]
  split
  · rename_i h
    have h' : m - (s.length : Int) < 0 := of_decide_eq_true h
    simp -implicitDefEqProofs only [↓DC, QS, ZRS, ↓ZDS, h, SS, one_ne2, num_ne2, TIS, MDS, Nat.reduceAdd, Nat.reduceEqDiff, Nat.reduceLT, Nat.reduceLeDiff, Nat.reduceMul, Nat.reduceSub, reduceIte]
    rw [left_gt (by omega)]
  · rename_i h
    simp -implicitDefEqProofs only [↓DC, QS, ZRS, ↓ZDS, h, SS, one_ne2, num_ne2, TIS, MDS, Nat.reduceAdd, Nat.reduceEqDiff, Nat.reduceLT, Nat.reduceLeDiff, Nat.reduceMul, Nat.reduceSub, reduceIte]
    have h' : ¬ (m - (s.length : Int) < 0) := of_decide_eq_false h
    rw [ev_loop]
    refine Eq.trans (loop_list (Q := fun g x => thenEnd E.P [] _ 0 (thenEv E _ _ _ _ _ (outOf 0 x)) = some (.int .i64 g, [])) s (szStep Rule.w) id
      (fun i m => { sl := [(0, .sl fl (s.map (Rule.enc fl))), (1, .int .i64 m), (5, .int .i64 (i : Nat))], bx := [], nx := 0, nt := 27 }) (fun i m => 0 ≤ m ∧ m ≤ 1048576) (m - s.length) ?_ ?_ (by omega) ⟨by omega, by omega⟩ ?_) ?_
    · intro m ⟨h1, h2⟩
      simp -implicitDefEqProofs only [W2, ↓D2, ↓DC, QX, leaf_some, isNormal, Int.reduceToNat, id_eq, Int.reduceBEq, Int.reduceLE, Int.reduceLT, Nat.reduceAdd, Nat.reduceEqDiff, Nat.reduceLT, Nat.reduceLeDiff, Nat.reduceMul, Nat.reduceSub, reduceIte]
      repeat' (split <;> (rename_i h; (try simp -implicitDefEqProofs only [Bool.not_eq_true', Bool.not_eq_false', decide_eq_true_eq, decide_eq_false_iff_not] at h); (try simp -implicitDefEqProofs only [W2, ↓D2, ↓DC, QX, *, leaf_some, isNormal, Int.reduceToNat, id_eq, Int.reduceBEq, Int.reduceLE, Int.reduceLT, Nat.reduceAdd, Nat.reduceEqDiff, Nat.reduceLT, Nat.reduceLeDiff, Nat.reduceMul, Nat.reduceSub, reduceIte])))
    · intro pre c r m hs' ⟨h1, h2⟩
      have hx := (at_row hs' hs).1; have hc := (at_row hs' hs).2.1; have hlt := (at_row hs' hs).2.2.1; have hw1 := (at_row hs' hs).2.2.2.1; have hl := (at_row hs' hs).2.2.2.2
      have c2 := c1 c hc m (by omega) h2
      simp -implicitDefEqProofs only [enc_Cond, enc_Rule] at c2
      clear hs'
      simp -implicitDefEqProofs only [W2, ↓D2, ↓DC, QX, enc_Cond, enc_Rule, hx, hlt, hw1, c2, szStep, keep_23_5, leaf_some, isNormal, Int.reduceToNat, id_eq, Int.reduceBEq, Int.reduceLE, Int.reduceLT, Nat.reduceAdd, Nat.reduceEqDiff, Nat.reduceLT, Nat.reduceLeDiff, Nat.reduceMul, Nat.reduceSub, reduceIte]
      repeat' (split <;> (rename_i h; (try simp -implicitDefEqProofs only [Bool.not_eq_true', Bool.not_eq_false', decide_eq_true_eq, decide_eq_false_iff_not] at h); (try simp -implicitDefEqProofs only [W2, ↓D2, ↓DC, QX, *, enc_Cond, enc_Rule, hx, hlt, hw1, c2, szStep, keep_23_5, leaf_some, isNormal, Int.reduceToNat, id_eq, Int.reduceBEq, Int.reduceLE, Int.reduceLT, Nat.reduceAdd, Nat.reduceEqDiff, Nat.reduceLT, Nat.reduceLeDiff, Nat.reduceMul, Nat.reduceSub, reduceIte])))
      exact ⟨by omega, left_hi h2 (by omega)⟩
    · simp -implicitDefEqProofs only [firstRegion]; rw [keep_23_5]; simp -implicitDefEqProofs only [W2, ↓D2, ↓DC, Int.reduceToNat, id_eq, Int.reduceBEq, Int.reduceLE, Int.reduceLT, Nat.reduceAdd, Nat.reduceEqDiff, Nat.reduceLT, Nat.reduceLeDiff, Nat.reduceMul, Nat.reduceSub, reduceIte]; first | done | rfl
    · rw [szLoop _ _ _ _ (by omega)]
      by_cases h2 : ((wl Rule.w s : Nat) : Int) ≤ m
      · rw [left_le h2, left_le (by omega)]; congr 3; omega
      · rw [left_gt (by omega), left_gt (by omega)]
theorem r_laws_szPolicy {fl : Bool} (k : Nat) (x : Policy) (hk : 281474976710656 + 4 * x.w + 5 ≤ k) (hf : x.fits) (m : Int) (hm : -1 ≤ m) (hm2 : m ≤ 1048576) :
    run E noExt k 7 [x.enc fl, .int .i64 m] [] = some (.int .i64 (left m x.w), []) := by
  obtain ⟨k, rfl⟩ : ∃ j, k = j + 1 := ⟨k - 1, by omega⟩
  rw [run_succ rfl rfl, body_eq (nt := 12) (fn := Go.Proofs.Tryz.f7) (by kernel_rfl) rfl rfl rfl rfl rfl rfl rfl rfl]
  unfold Policy.w at hk ⊢
  unfold Policy.fits at hf
  have c0 := r_laws_szRuleS (fl := fl) k x.rules (by omega) (hf) (m) (hm) (hm2)
  simp -implicitDefEqProofs only [W1, ↓D1, ↓DC, enc_Policy, Go.Proofs.Tryz.f7, c0, ifEv_bool, Int.reduceToNat, id_eq, Int.reduceBEq, Int.reduceLE, Int.reduceLT, Nat.reduceAdd, Nat.reduceEqDiff, Nat.reduceLT, Nat.reduceLeDiff, Nat.reduceMul, Nat.reduceSub, reduceIte]
  split
  · rename_i h
    have h' := of_decide_eq_true h
    simp -implicitDefEqProofs only [↓DC, QS, ZRS, ↓ZDS, h, SS, one_ne2, num_ne2, TIS, MDS, Nat.reduceAdd, Nat.reduceEqDiff, Nat.reduceLT, Nat.reduceLeDiff, Nat.reduceMul, Nat.reduceSub, reduceIte]
    have hlo := left_lo (m := 0) hm
    congr 3
    unfold left at h' ⊢
    split at h' <;> split <;> omega
  · rename_i h
    simp -implicitDefEqProofs only [W1, ↓D1, ↓DC, h, c0, ifEv_bool, Int.reduceToNat, id_eq, Int.reduceBEq, Int.reduceLE, Int.reduceLT, Nat.reduceAdd, Nat.reduceEqDiff, Nat.reduceLT, Nat.reduceLeDiff, Nat.reduceMul, Nat.reduceSub, reduceIte]
    try simp -implicitDefEqProofs only [left_left hm, Nat.add_assoc]
theorem r_laws_toIncludes {fl : Bool} (k : Nat) (hk : 290271069732864 + 1 ≤ k) (x : Includes) : run E noExt k 28 [x.enc fl] [] = some (x.enc true, []) := by
  obtain ⟨k, rfl⟩ : ∃ j, k = j + 1 := ⟨k - 1, by omega⟩
  rw [run_succ rfl rfl, body_eq (nt := 11) (fn := Go.Proofs.Tryz.f28) (by kernel_rfl) rfl rfl rfl rfl rfl rfl rfl rfl]
  simp -implicitDefEqProofs only [↓DC, QS, ZRS, ↓ZDS, enc_Includes, Go.Proofs.Tryz.f28, SS, one_ne2, num_ne2, TIS, MDS, Nat.reduceAdd, Nat.reduceEqDiff, Nat.reduceLT, Nat.reduceLeDiff, Nat.reduceMul, Nat.reduceSub, reduceIte]
theorem r_laws_toIncludesS {fl : Bool} (k : Nat) (hk : 290271069732864 + 2 ≤ k) (s : List Includes) (hs0 : s.length ≤ 1099511627776) : run E noExt k 9 [.sl fl (s.map (Includes.enc fl))] [] = some (.own 0 false 66 2 (s.map (Includes.enc true)), []) := by
  obtain ⟨k, rfl⟩ : ∃ j, k = j + 1 := ⟨k - 1, by omega⟩
  rw [run_succ rfl rfl, body_eq (nt := 23) (fn := Go.Proofs.Tryz.f9) (by kernel_rfl) rfl rfl rfl rfl rfl rfl rfl rfl]
  have hs1 : s.length ≤ 1099511627776 := hs0
  have c1 : ∀ c ∈ s, run E noExt k 28 [c.enc fl] [] = some (c.enc true, []) := fun c hc => r_laws_toIncludes k (by omega) c
  have hs : s.length ≤ 140737488355328 := by omega
  simp -implicitDefEqProofs only [W1, ↓D1, ↓DC, Go.Proofs.Tryz.f9, ifEv_bool, Int.reduceToNat, id_eq, Int.reduceBEq, Int.reduceLE, Int.reduceLT, Nat.reduceAdd, Nat.reduceEqDiff, Nat.reduceLT, Nat.reduceLeDiff, Nat.reduceMul, Nat.reduceSub, reduceIte]
  rw [makeSlice_own (n := s.length) (ti := _) (te := _) sl33 ti33 ti66 (by rfl) (by dsimp only; omega) (by omega) (by decide)]
  simp -implicitDefEqProofs only [W1, ↓D1, ↓DC, Int.reduceToNat, id_eq, Int.reduceBEq, Int.reduceLE, Int.reduceLT, Nat.reduceAdd, Nat.reduceEqDiff, Nat.reduceLT, Nat.reduceLeDiff, Nat.reduceMul, Nat.reduceSub, reduceIte]
  rw [ev_loop]
  refine Eq.trans (loop_list (Q := fun g x => thenEnd E.P [] _ 0 (thenEv E _ _ _ _ _ (outOf 0 x)) = some (.own 0 false 66 2 g, [])) s (toStep (Includes.enc true)) id
    (fun i b => { sl := [(0, .sl fl (s.map (Includes.enc fl))), (3, .own 0 false 66 2 b), (4, .int .i64 (i : Nat))], bx := [], nx := 1, nt := 23 }) (fun i b => b.length = s.length ∧ (∀ y ∈ b, ∃ cs, y = .agg cs ∧ cs.length = 2)) (List.replicate s.length (.agg [.int .i64 0, .int .i64 0])) ?_ ?_ (by omega) ⟨by simp, ?_⟩ ?_) ?_
  · intro b ⟨h1, h2⟩
    simp -implicitDefEqProofs only [W3, ↓D3, ↓DA, ↓DP, ↓DC, QX, SH, leaf_some, isNormal, Int.reduceToNat, id_eq, Int.reduceBEq, Int.reduceLE, Int.reduceLT, Nat.reduceAdd, Nat.reduceEqDiff, Nat.reduceLT, Nat.reduceLeDiff, Nat.reduceMul, Nat.reduceSub, reduceIte]
    repeat' (split <;> (rename_i h; (try simp -implicitDefEqProofs only [Bool.not_eq_true', Bool.not_eq_false', decide_eq_true_eq, decide_eq_false_iff_not] at h); (try simp -implicitDefEqProofs only [W3, ↓D3, ↓DA, ↓DP, ↓DC, QX, *, SH, leaf_some, isNormal, Int.reduceToNat, id_eq, Int.reduceBEq, Int.reduceLE, Int.reduceLT, Nat.reduceAdd, Nat.reduceEqDiff, Nat.reduceLT, Nat.reduceLeDiff, Nat.reduceMul, Nat.reduceSub, reduceIte])))
    all_goals first | trivial | (refine ⟨trivial, ?_⟩; rfl)
  · intro pre c r b hs' ⟨h1, h2⟩
    have hx := (at_row hs' hs).1; have hc := (at_row hs' hs).2.1; have hlt := (at_row hs' hs).2.2.1; have hw1 := (at_row hs' hs).2.2.2.1; have hl := (at_row hs' hs).2.2.2.2
    have hl1 : pre.length < b.length := by omega
    have hl2 : ((pre.length : Nat) : Int) < ((b.length : Nat) : Int) := by omega
    have c2 := c1 c hc
    simp -implicitDefEqProofs only [enc_Includes] at c2
    obtain ⟨y, hy⟩ : ∃ y, b[pre.length]? = some y := ⟨_, List.getElem?_eq_getElem hl1⟩
    obtain ⟨cs, rfl, hcs⟩ := h2 y (List.mem_of_getElem? hy)
    have hset : ∀ y ∈ b.set pre.length (Includes.enc true c), ∃ cs, y = .agg cs ∧ cs.length = 2 := by
      intro y hy
      rcases List.mem_or_eq_of_mem_set hy with hy | rfl
      · exact h2 y hy
      · exact ⟨_, enc_Includes, rfl⟩
    clear hs'
    simp -implicitDefEqProofs only [W3, ↓D3, ↓DA, ↓DP, ↓DC, QX, enc_Includes, c2, hx, hlt, hl2, hw1, hy, hcs, (List.drop_of_length_le (Nat.le_of_eq hcs)), toStep, SH, keep_9_3, leaf_some, isNormal, Int.reduceToNat, id_eq, Int.reduceBEq, Int.reduceLE, Int.reduceLT, Nat.reduceAdd, Nat.reduceEqDiff, Nat.reduceLT, Nat.reduceLeDiff, Nat.reduceMul, Nat.reduceSub, reduceIte]
    repeat' (split <;> (rename_i h; (try simp -implicitDefEqProofs only [Bool.not_eq_true', Bool.not_eq_false', decide_eq_true_eq, decide_eq_false_iff_not] at h); (try simp -implicitDefEqProofs only [W3, ↓D3, ↓DA, ↓DP, ↓DC, QX, *, enc_Includes, c2, hx, hlt, hl2, hw1, hy, hcs, (List.drop_of_length_le (Nat.le_of_eq hcs)), toStep, SH, keep_9_3, leaf_some, isNormal, Int.reduceToNat, id_eq, Int.reduceBEq, Int.reduceLE, Int.reduceLT, Nat.reduceAdd, Nat.reduceEqDiff, Nat.reduceLT, Nat.reduceLeDiff, Nat.reduceMul, Nat.reduceSub, reduceIte])))
    simp -implicitDefEqProofs only [enc_Includes] at hset
    exact ⟨by rw [List.length_set, h1], hset⟩
  · intro y hy
    rw [List.mem_replicate] at hy
    exact ⟨_, hy.2, rfl⟩
  · simp -implicitDefEqProofs only [firstRegion]; rw [keep_9_3]; simp -implicitDefEqProofs only [W2, ↓D2, ↓DC, Int.reduceToNat, id_eq, Int.reduceBEq, Int.reduceLE, Int.reduceLT, Nat.reduceAdd, Nat.reduceEqDiff, Nat.reduceLT, Nat.reduceLeDiff, Nat.reduceMul, Nat.reduceSub, reduceIte]; first | done | rfl
  · rw [toLoop _ _ _ _ (by simp)]
    simp
theorem r_laws_toFact {fl : Bool} (k : Nat) (hk : 290271069732864 + 1 ≤ k) (x : Fact) : run E noExt k 29 [x.enc fl] [] = some (x.enc true, []) := by
  obtain ⟨k, rfl⟩ : ∃ j, k = j + 1 := ⟨k - 1, by omega⟩
  rw [run_succ rfl rfl, body_eq (nt := 23) (fn := Go.Proofs.Tryz.f29) (by kernel_rfl) rfl rfl rfl rfl rfl rfl rfl rfl]
  simp -implicitDefEqProofs only [↓DC, QS, ZRS, ↓ZDS, enc_Fact, Go.Proofs.Tryz.f29, SS, one_ne2, num_ne2, TIS, MDS, Nat.reduceAdd, Nat.reduceEqDiff, Nat.reduceLT, Nat.reduceLeDiff, Nat.reduceMul, Nat.reduceSub, reduceIte]
theorem r_laws_toFactS {fl : Bool} (k : Nat) (hk : 290271069732864 + 2 ≤ k) (s : List Fact) (hs0 : s.length ≤ 1099511627776) : run E noExt k 10 [.sl fl (s.map (Fact.enc fl))] [] = some (.own 0 false 70 6 (s.map (Fact.enc true)), []) := by
  obtain ⟨k, rfl⟩ : ∃ j, k = j + 1 := ⟨k - 1, by omega⟩
  rw [run_succ rfl rfl, body_eq (nt := 23) (fn := Go.Proofs.Tryz.f10) (by kernel_rfl) rfl rfl rfl rfl rfl rfl rfl rfl]
  have hs1 : s.length ≤ 1099511627776 := hs0
  have c1 : ∀ c ∈ s, run E noExt k 29 [c.enc fl] [] = some (c.enc true, []) := fun c hc => r_laws_toFact k (by omega) c
  have hs : s.length ≤ 140737488355328 := by omega
  simp -implicitDefEqProofs only [W1, ↓D1, ↓DC, Go.Proofs.Tryz.f10, ifEv_bool, Int.reduceToNat, id_eq, Int.reduceBEq, Int.reduceLE, Int.reduceLT, Nat.reduceAdd, Nat.reduceEqDiff, Nat.reduceLT, Nat.reduceLeDiff, Nat.reduceMul, Nat.reduceSub, reduceIte]
  rw [makeSlice_own (n := s.length) (ti := _) (te := _) sl35 ti35 ti70 (by rfl) (by dsimp only; omega) (by omega) (by decide)]
  simp -implicitDefEqProofs only [W1, ↓D1, ↓DC, Int.reduceToNat, id_eq, Int.reduceBEq, Int.reduceLE, Int.reduceLT, Nat.reduceAdd, Nat.reduceEqDiff, Nat.reduceLT, Nat.reduceLeDiff, Nat.reduceMul, Nat.reduceSub, reduceIte]
  rw [ev_loop]
  refine Eq.trans (loop_list (Q := fun g x => thenEnd E.P [] _ 0 (thenEv E _ _ _ _ _ (outOf 0 x)) = some (.own 0 false 70 6 g, [])) s (toStep (Fact.enc true)) id
    (fun i b => { sl := [(0, .sl fl (s.map (Fact.enc fl))), (3, .own 0 false 70 6 b), (4, .int .i64 (i : Nat))], bx := [], nx := 1, nt := 23 }) (fun i b => b.length = s.length ∧ (∀ y ∈ b, ∃ cs, y = .agg cs ∧ cs.length = 6)) (List.replicate s.length (.agg [.int .i64 0, .int .i64 0, .int .i64 0, .int .i64 0, .int .i64 0, .int .i64 0])) ?_ ?_ (by omega) ⟨by simp, ?_⟩ ?_) ?_
  · intro b ⟨h1, h2⟩
    simp -implicitDefEqProofs only [W3, ↓D3, ↓DA, ↓DP, ↓DC, QX, SH, leaf_some, isNormal, Int.reduceToNat, id_eq, Int.reduceBEq, Int.reduceLE, Int.reduceLT, Nat.reduceAdd, Nat.reduceEqDiff, Nat.reduceLT, Nat.reduceLeDiff, Nat.reduceMul, Nat.reduceSub, reduceIte]
    repeat' (split <;> (rename_i h; (try simp -implicitDefEqProofs only [Bool.not_eq_true', Bool.not_eq_false', decide_eq_true_eq, decide_eq_false_iff_not] at h); (try simp -implicitDefEqProofs only [W3, ↓D3, ↓DA, ↓DP, ↓DC, QX, *, SH, leaf_some, isNormal, Int.reduceToNat, id_eq, Int.reduceBEq, Int.reduceLE, Int.reduceLT, Nat.reduceAdd, Nat.reduceEqDiff, Nat.reduceLT, Nat.reduceLeDiff, Nat.reduceMul, Nat.reduceSub, reduceIte])))
    all_goals first | trivial | (refine ⟨trivial, ?_⟩; rfl)
  · intro pre c r b hs' ⟨h1, h2⟩
    have hx := (at_row hs' hs).1; have hc := (at_row hs' hs).2.1; have hlt := (at_row hs' hs).2.2.1; have hw1 := (at_row hs' hs).2.2.2.1; have hl := (at_row hs' hs).2.2.2.2
    have hl1 : pre.length < b.length := by omega
    have hl2 : ((pre.length : Nat) : Int) < ((b.length : Nat) : Int) := by omega
    have c2 := c1 c hc
    simp -implicitDefEqProofs only [enc_Fact] at c2
    obtain ⟨y, hy⟩ : ∃ y, b[pre.length]? = some y := ⟨_, List.getElem?_eq_getElem hl1⟩
    obtain ⟨cs, rfl, hcs⟩ := h2 y (List.mem_of_getElem? hy)
    have hset : ∀ y ∈ b.set pre.length (Fact.enc true c), ∃ cs, y = .agg cs ∧ cs.length = 6 := by
      intro y hy
      rcases List.mem_or_eq_of_mem_set hy with hy | rfl
      · exact h2 y hy
      · exact ⟨_, enc_Fact, rfl⟩
    clear hs'
    simp -implicitDefEqProofs only [W3, ↓D3, ↓DA, ↓DP, ↓DC, QX, enc_Fact, c2, hx, hlt, hl2, hw1, hy, hcs, (List.drop_of_length_le (Nat.le_of_eq hcs)), toStep, SH, keep_10_3, leaf_some, isNormal, Int.reduceToNat, id_eq, Int.reduceBEq, Int.reduceLE, Int.reduceLT, Nat.reduceAdd, Nat.reduceEqDiff, Nat.reduceLT, Nat.reduceLeDiff, Nat.reduceMul, Nat.reduceSub, reduceIte]
    repeat' (split <;> (rename_i h; (try simp -implicitDefEqProofs only [Bool.not_eq_true', Bool.not_eq_false', decide_eq_true_eq, decide_eq_false_iff_not] at h); (try simp -implicitDefEqProofs only [W3, ↓D3, ↓DA, ↓DP, ↓DC, QX, *, enc_Fact, c2, hx, hlt, hl2, hw1, hy, hcs, (List.drop_of_length_le (Nat.le_of_eq hcs)), toStep, SH, keep_10_3, leaf_some, isNormal, Int.reduceToNat, id_eq, Int.reduceBEq, Int.reduceLE, Int.reduceLT, Nat.reduceAdd, Nat.reduceEqDiff, Nat.reduceLT, Nat.reduceLeDiff, Nat.reduceMul, Nat.reduceSub, reduceIte])))
    simp -implicitDefEqProofs only [enc_Fact] at hset
    exact ⟨by rw [List.length_set, h1], hset⟩
  · intro y hy
    rw [List.mem_replicate] at hy
    exact ⟨_, hy.2, rfl⟩
  · simp -implicitDefEqProofs only [firstRegion]; rw [keep_10_3]; simp -implicitDefEqProofs only [W2, ↓D2, ↓DC, Int.reduceToNat, id_eq, Int.reduceBEq, Int.reduceLE, Int.reduceLT, Nat.reduceAdd, Nat.reduceEqDiff, Nat.reduceLT, Nat.reduceLeDiff, Nat.reduceMul, Nat.reduceSub, reduceIte]; first | done | rfl
  · rw [toLoop _ _ _ _ (by simp)]
    simp
theorem r_laws_toRequest {fl : Bool} (k : Nat) (hk : 290271069732864 + 1 ≤ k) (x : Request) : run E noExt k 12 [x.enc fl] [] = some (x.enc true, []) := by
  obtain ⟨k, rfl⟩ : ∃ j, k = j + 1 := ⟨k - 1, by omega⟩
  rw [run_succ rfl rfl, body_eq (nt := 23) (fn := Go.Proofs.Tryz.f12) (by kernel_rfl) rfl rfl rfl rfl rfl rfl rfl rfl]
  simp -implicitDefEqProofs only [↓DC, QS, ZRS, ↓ZDS, enc_Request, Go.Proofs.Tryz.f12, SS, one_ne2, num_ne2, TIS, MDS, Nat.reduceAdd, Nat.reduceEqDiff, Nat.reduceLT, Nat.reduceLeDiff, Nat.reduceMul, Nat.reduceSub, reduceIte]
theorem r_laws_toCondS0 {fl : Bool} (k : Nat) (s : List Cond) (hk : 281474976710656 + 4 * wl Cond.w s + 1 ≤ k) (hs0 : wl Cond.w s ≤ 1099511627776) (c1 : ∀ c ∈ s, run E noExt (k - 1) 72 [c.enc fl] [] = some (c.encO, [])) : run E noExt k 98 [.sl fl (s.map (Cond.enc fl))] [] = some (.own 0 false 61 4 (s.map (Cond.enc true)), []) := by
  obtain ⟨k, rfl⟩ : ∃ j, k = j + 1 := ⟨k - 1, by omega⟩
  rw [run_succ rfl rfl, body_eq (nt := 23) (fn := Go.Proofs.Tryz.f98) (by kernel_rfl) rfl rfl rfl rfl rfl rfl rfl rfl]
  simp -implicitDefEqProofs only [Nat.add_sub_cancel] at c1
  have hs1 : s.length ≤ 1099511627776 := Nat.le_trans (wl_length _ s) hs0
  have hs : s.length ≤ 140737488355328 := by omega
  simp -implicitDefEqProofs only [W1, ↓D1, ↓DC, Go.Proofs.Tryz.f98, ifEv_bool, Int.reduceToNat, id_eq, Int.reduceBEq, Int.reduceLE, Int.reduceLT, Nat.reduceAdd, Nat.reduceEqDiff, Nat.reduceLT, Nat.reduceLeDiff, Nat.reduceMul, Nat.reduceSub, reduceIte]
  rw [makeSlice_own (n := s.length) (ti := _) (te := _) sl59 ti59 ti61 (by rfl) (by dsimp only; omega) (by omega) (by decide)]
  simp -implicitDefEqProofs only [W1, ↓D1, ↓DC, Int.reduceToNat, id_eq, Int.reduceBEq, Int.reduceLE, Int.reduceLT, Nat.reduceAdd, Nat.reduceEqDiff, Nat.reduceLT, Nat.reduceLeDiff, Nat.reduceMul, Nat.reduceSub, reduceIte]
  rw [ev_loop]
  refine Eq.trans (loop_list (Q := fun g x => thenEnd E.P [] _ 0 (thenEv E _ _ _ _ _ (outOf 0 x)) = some (.own 0 false 61 4 g, [])) s (toStep (Cond.enc true)) id
    (fun i b => { sl := [(0, .sl fl (s.map (Cond.enc fl))), (3, .own 0 false 61 4 b), (4, .int .i64 (i : Nat))], bx := [], nx := 1, nt := 23 }) (fun i b => b.length = s.length ∧ (∀ y ∈ b, ∃ cs, y = .agg cs ∧ cs.length = 4)) (List.replicate s.length (.agg [.int .i64 0, .int .i64 0, .int .i64 0, .sl true []])) ?_ ?_ (by omega) ⟨by simp, ?_⟩ ?_) ?_
  · intro b ⟨h1, h2⟩
    simp -implicitDefEqProofs only [W3, ↓D3, ↓DA, ↓DP, ↓DC, QX, SH, leaf_some, isNormal, Int.reduceToNat, id_eq, Int.reduceBEq, Int.reduceLE, Int.reduceLT, Nat.reduceAdd, Nat.reduceEqDiff, Nat.reduceLT, Nat.reduceLeDiff, Nat.reduceMul, Nat.reduceSub, reduceIte]
    repeat' (split <;> (rename_i h; (try simp -implicitDefEqProofs only [Bool.not_eq_true', Bool.not_eq_false', decide_eq_true_eq, decide_eq_false_iff_not] at h); (try simp -implicitDefEqProofs only [W3, ↓D3, ↓DA, ↓DP, ↓DC, QX, *, SH, leaf_some, isNormal, Int.reduceToNat, id_eq, Int.reduceBEq, Int.reduceLE, Int.reduceLT, Nat.reduceAdd, Nat.reduceEqDiff, Nat.reduceLT, Nat.reduceLeDiff, Nat.reduceMul, Nat.reduceSub, reduceIte])))
    all_goals first | trivial | (refine ⟨trivial, ?_⟩; rfl)
  · intro pre c r b hs' ⟨h1, h2⟩
    have hx := (at_row hs' hs).1; have hc := (at_row hs' hs).2.1; have hlt := (at_row hs' hs).2.2.1; have hw1 := (at_row hs' hs).2.2.2.1; have hl := (at_row hs' hs).2.2.2.2
    have hl1 : pre.length < b.length := by omega
    have hl2 : ((pre.length : Nat) : Int) < ((b.length : Nat) : Int) := by omega
    have c2 := c1 c hc
    simp -implicitDefEqProofs only [enc_Cond, Cond.encO] at c2
    obtain ⟨y, hy⟩ : ∃ y, b[pre.length]? = some y := ⟨_, List.getElem?_eq_getElem hl1⟩
    obtain ⟨cs, rfl, hcs⟩ := h2 y (List.mem_of_getElem? hy)
    have hset : ∀ y ∈ b.set pre.length (Cond.enc true c), ∃ cs, y = .agg cs ∧ cs.length = 4 := by
      intro y hy
      rcases List.mem_or_eq_of_mem_set hy with hy | rfl
      · exact h2 y hy
      · exact ⟨_, enc_Cond, rfl⟩
    clear hs'
    simp -implicitDefEqProofs only [W3, ↓D3, ↓DA, ↓DP, ↓DC, QX, enc_Cond, c2, hx, hlt, hl2, hw1, hy, hcs, (List.drop_of_length_le (Nat.le_of_eq hcs)), toStep, SH, keep_98_3, leaf_some, isNormal, Int.reduceToNat, id_eq, Int.reduceBEq, Int.reduceLE, Int.reduceLT, Nat.reduceAdd, Nat.reduceEqDiff, Nat.reduceLT, Nat.reduceLeDiff, Nat.reduceMul, Nat.reduceSub, reduceIte]
    repeat' (split <;> (rename_i h; (try simp -implicitDefEqProofs only [Bool.not_eq_true', Bool.not_eq_false', decide_eq_true_eq, decide_eq_false_iff_not] at h); (try simp -implicitDefEqProofs only [W3, ↓D3, ↓DA, ↓DP, ↓DC, QX, *, enc_Cond, c2, hx, hlt, hl2, hw1, hy, hcs, (List.drop_of_length_le (Nat.le_of_eq hcs)), toStep, SH, keep_98_3, leaf_some, isNormal, Int.reduceToNat, id_eq, Int.reduceBEq, Int.reduceLE, Int.reduceLT, Nat.reduceAdd, Nat.reduceEqDiff, Nat.reduceLT, Nat.reduceLeDiff, Nat.reduceMul, Nat.reduceSub, reduceIte])))
    simp -implicitDefEqProofs only [enc_Cond] at hset
    exact ⟨by rw [List.length_set, h1], hset⟩
  · intro y hy
    rw [List.mem_replicate] at hy
    exact ⟨_, hy.2, rfl⟩
  · simp -implicitDefEqProofs only [firstRegion]; rw [keep_98_3]; simp -implicitDefEqProofs only [W2, ↓D2, ↓DC, Int.reduceToNat, id_eq, Int.reduceBEq, Int.reduceLE, Int.reduceLT, Nat.reduceAdd, Nat.reduceEqDiff, Nat.reduceLT, Nat.reduceLeDiff, Nat.reduceMul, Nat.reduceSub, reduceIte]; first | done | rfl
  · rw [toLoop _ _ _ _ (by simp)]
    simp
theorem r_laws_toCond0 {fl : Bool} (x : Cond) : ∀ (k : Nat), 281474976710656 + 4 * x.w + 2 ≤ k → x.w ≤ 1099511627776 → run E noExt k 72 [x.enc fl] [] = some (x.encO, []) := by
  induction x using Cond.induct with
  | h x ih =>
    intro k hk hx
    rw [x.w_eq] at hk hx
    have c2 := r_laws_toCondS0 (fl := fl) (k - 1) x.args (by omega) hx (fun c hc => ih c hc _ (by have := wl_mem (w := Cond.w) hc; omega) (by have := wl_mem (w := Cond.w) hc; omega))
    obtain ⟨k, rfl⟩ : ∃ j, k = j + 1 := ⟨k - 1, by omega⟩
    rw [run_succ rfl rfl, body_eq (nt := 18) (fn := Go.Proofs.Tryz.f72) (by kernel_rfl) rfl rfl rfl rfl rfl rfl rfl rfl]
    simp -implicitDefEqProofs only [Nat.add_sub_cancel] at c2
    simp -implicitDefEqProofs only [W3, ↓D3, ↓DA, ↓DP, ↓DC, enc_Cond, Go.Proofs.Tryz.f72, c2, SH, Int.reduceToNat, id_eq, Int.reduceBEq, Int.reduceLE, Int.reduceLT, Nat.reduceAdd, Nat.reduceEqDiff, Nat.reduceLT, Nat.reduceLeDiff, Nat.reduceMul, Nat.reduceSub, reduceIte]
    rfl
theorem r_laws_toCond {fl : Bool} (k : Nat) (hk : 290271069732864 + 2 ≤ k) (x : Cond) (hx : x.w ≤ 1099511627776) : run E noExt k 72 [x.enc fl] [] = some (x.encO, []) := r_laws_toCond0 x k (by omega) hx
theorem r_laws_toRule {fl : Bool} (k : Nat) (hk : 290271069732864 + 4 ≤ k) (x : Rule) (hx : x.w ≤ 1099511627776) : run E noExt k 50 [x.enc fl] [] = some (x.encO, []) := by
  obtain ⟨k, rfl⟩ : ∃ j, k = j + 1 := ⟨k - 1, by omega⟩
  rw [run_succ rfl rfl, body_eq (nt := 18) (fn := Go.Proofs.Tryz.f50) (by kernel_rfl) rfl rfl rfl rfl rfl rfl rfl rfl]
  unfold Rule.w at hx
  have c_cond := r_laws_toCond (fl := fl) k (by omega) x.cond (by omega)
  simp -implicitDefEqProofs only [enc_Cond, enc_Rule, Cond.encO] at c_cond
  simp -implicitDefEqProofs only [↓DA, ↓DP, ↓DC, QS, QG, QO, ZRS, ↓ZDS, ZRG, ↓ZDG, ZRO, ↓ZDO, enc_Rule, Go.Proofs.Tryz.f50, c_cond, SO, SH, SS, one_ne2, num_ne2, TIS, MDS, Nat.reduceAdd, Nat.reduceEqDiff, Nat.reduceLT, Nat.reduceLeDiff, Nat.reduceMul, Nat.reduceSub, reduceIte]
  rfl
theorem r_laws_toRuleS {fl : Bool} (k : Nat) (hk : 290271069732864 + 5 ≤ k) (s : List Rule) (hs0 : wl Rule.w s ≤ 1099511627776) : run E noExt k 30 [.sl fl (s.map (Rule.enc fl))] [] = some (.own 0 false 63 7 (s.map (Rule.enc true)), []) := by
  obtain ⟨k, rfl⟩ : ∃ j, k = j + 1 := ⟨k - 1, by omega⟩
  rw [run_succ rfl rfl, body_eq (nt := 23) (fn := Go.Proofs.Tryz.f30) (by kernel_rfl) rfl rfl rfl rfl rfl rfl rfl rfl]
  have hs1 : s.length ≤ 1099511627776 := Nat.le_trans (wl_length _ s) hs0
  have c1 : ∀ c ∈ s, run E noExt k 50 [c.enc fl] [] = some (c.encO, []) := fun c hc => r_laws_toRule k (by omega) c (by have := wl_mem (w := Rule.w) hc; omega)
  have hs : s.length ≤ 140737488355328 := by omega
  simp -implicitDefEqProofs only [W1, ↓D1, ↓DC, Go.Proofs.Tryz.f30, ifEv_bool, Int.reduceToNat, id_eq, Int.reduceBEq, Int.reduceLE, Int.reduceLT, Nat.reduceAdd, Nat.reduceEqDiff, Nat.reduceLT, Nat.reduceLeDiff, Nat.reduceMul, Nat.reduceSub, reduceIte]
  rw [makeSlice_own (n := s.length) (ti := _) (te := _) sl37 ti37 ti63 (by rfl) (by dsimp only; omega) (by omega) (by decide)]
  simp -implicitDefEqProofs only [W1, ↓D1, ↓DC, Int.reduceToNat, id_eq, Int.reduceBEq, Int.reduceLE, Int.reduceLT, Nat.reduceAdd, Nat.reduceEqDiff, Nat.reduceLT, Nat.reduceLeDiff, Nat.reduceMul, Nat.reduceSub, reduceIte]
  rw [ev_loop]
  refine Eq.trans (loop_list (Q := fun g x => thenEnd E.P [] _ 0 (thenEv E _ _ _ _ _ (outOf 0 x)) = some (.own 0 false 63 7 g, [])) s (toStep (Rule.enc true)) id
    (fun i b => { sl := [(0, .sl fl (s.map (Rule.enc fl))), (3, .own 0 false 63 7 b), (4, .int .i64 (i : Nat))], bx := [], nx := 1, nt := 23 }) (fun i b => b.length = s.length ∧ (∀ y ∈ b, ∃ cs, y = .agg cs ∧ cs.length = 7)) (List.replicate s.length (.agg [.int .i64 0, .int .i64 0, .int .i64 0, .int .i64 0, .int .i64 0, .int .i64 0, .sl true []])) ?_ ?_ (by omega) ⟨by simp, ?_⟩ ?_) ?_
  · intro b ⟨h1, h2⟩
    simp -implicitDefEqProofs only [W3, ↓D3, ↓DA, ↓DP, ↓DC, QX, SH, leaf_some, isNormal, Int.reduceToNat, id_eq, Int.reduceBEq, Int.reduceLE, Int.reduceLT, Nat.reduceAdd, Nat.reduceEqDiff, Nat.reduceLT, Nat.reduceLeDiff, Nat.reduceMul, Nat.reduceSub, reduceIte]
    repeat' (split <;> (rename_i h; (try simp -implicitDefEqProofs only [Bool.not_eq_true', Bool.not_eq_false', decide_eq_true_eq, decide_eq_false_iff_not] at h); (try simp -implicitDefEqProofs only [W3, ↓D3, ↓DA, ↓DP, ↓DC, QX, *, SH, leaf_some, isNormal, Int.reduceToNat, id_eq, Int.reduceBEq, Int.reduceLE, Int.reduceLT, Nat.reduceAdd, Nat.reduceEqDiff, Nat.reduceLT, Nat.reduceLeDiff, Nat.reduceMul, Nat.reduceSub, reduceIte])))
    all_goals first | trivial | (refine ⟨trivial, ?_⟩; rfl)
  · intro pre c r b hs' ⟨h1, h2⟩
    have hx := (at_row hs' hs).1; have hc := (at_row hs' hs).2.1; have hlt := (at_row hs' hs).2.2.1; have hw1 := (at_row hs' hs).2.2.2.1; have hl := (at_row hs' hs).2.2.2.2
    have hl1 : pre.length < b.length := by omega
    have hl2 : ((pre.length : Nat) : Int) < ((b.length : Nat) : Int) := by omega
    have c2 := c1 c hc
    simp -implicitDefEqProofs only [enc_Cond, enc_Rule, Rule.encO] at c2
    obtain ⟨y, hy⟩ : ∃ y, b[pre.length]? = some y := ⟨_, List.getElem?_eq_getElem hl1⟩
    obtain ⟨cs, rfl, hcs⟩ := h2 y (List.mem_of_getElem? hy)
    have hset : ∀ y ∈ b.set pre.length (Rule.enc true c), ∃ cs, y = .agg cs ∧ cs.length = 7 := by
      intro y hy
      rcases List.mem_or_eq_of_mem_set hy with hy | rfl
      · exact h2 y hy
      · exact ⟨_, enc_Rule, rfl⟩
    clear hs'
    simp -implicitDefEqProofs only [W3, ↓D3, ↓DA, ↓DP, ↓DC, QX, enc_Cond, enc_Rule, c2, hx, hlt, hl2, hw1, hy, hcs, (List.drop_of_length_le (Nat.le_of_eq hcs)), toStep, SH, keep_30_3, leaf_some, isNormal, Int.reduceToNat, id_eq, Int.reduceBEq, Int.reduceLE, Int.reduceLT, Nat.reduceAdd, Nat.reduceEqDiff, Nat.reduceLT, Nat.reduceLeDiff, Nat.reduceMul, Nat.reduceSub, reduceIte]
    repeat' (split <;> (rename_i h; (try simp -implicitDefEqProofs only [Bool.not_eq_true', Bool.not_eq_false', decide_eq_true_eq, decide_eq_false_iff_not] at h); (try simp -implicitDefEqProofs only [W3, ↓D3, ↓DA, ↓DP, ↓DC, QX, *, enc_Cond, enc_Rule, c2, hx, hlt, hl2, hw1, hy, hcs, (List.drop_of_length_le (Nat.le_of_eq hcs)), toStep, SH, keep_30_3, leaf_some, isNormal, Int.reduceToNat, id_eq, Int.reduceBEq, Int.reduceLE, Int.reduceLT, Nat.reduceAdd, Nat.reduceEqDiff, Nat.reduceLT, Nat.reduceLeDiff, Nat.reduceMul, Nat.reduceSub, reduceIte])))
    simp -implicitDefEqProofs only [enc_Cond, enc_Rule] at hset
    exact ⟨by rw [List.length_set, h1], hset⟩
  · intro y hy
    rw [List.mem_replicate] at hy
    exact ⟨_, hy.2, rfl⟩
  · simp -implicitDefEqProofs only [firstRegion]; rw [keep_30_3]; simp -implicitDefEqProofs only [W2, ↓D2, ↓DC, Int.reduceToNat, id_eq, Int.reduceBEq, Int.reduceLE, Int.reduceLT, Nat.reduceAdd, Nat.reduceEqDiff, Nat.reduceLT, Nat.reduceLeDiff, Nat.reduceMul, Nat.reduceSub, reduceIte]; first | done | rfl
  · rw [toLoop _ _ _ _ (by simp)]
    simp
theorem r_laws_toPolicy {fl : Bool} (k : Nat) (hk : 290271069732864 + 6 ≤ k) (x : Policy) (hx : x.w ≤ 1099511627776) : run E noExt k 11 [x.enc fl] [] = some (x.encO, []) := by
  obtain ⟨k, rfl⟩ : ∃ j, k = j + 1 := ⟨k - 1, by omega⟩
  rw [run_succ rfl rfl, body_eq (nt := 12) (fn := Go.Proofs.Tryz.f11) (by kernel_rfl) rfl rfl rfl rfl rfl rfl rfl rfl]
  unfold Policy.w at hx
  have c_rules := r_laws_toRuleS (fl := fl) k (by omega) x.rules (by omega)
  simp -implicitDefEqProofs only [↓DA, ↓DP, ↓DC, QS, QG, QO, ZRS, ↓ZDS, ZRG, ↓ZDG, ZRO, ↓ZDO, enc_Policy, Go.Proofs.Tryz.f11, c_rules, SO, SH, SS, one_ne2, num_ne2, TIS, MDS, Nat.reduceAdd, Nat.reduceEqDiff, Nat.reduceLT, Nat.reduceLeDiff, Nat.reduceMul, Nat.reduceSub, reduceIte]
  rfl
end Go.Proofs.YtaojmienjikfbaaGreatDoor.Flat
