/-
What is handed: counted.
-/
import Derived.Test.YtkolknigffoleaaFlatCF
import Derived.Test.YtkolknigffoleaaEqD
set_option linter.unusedVariables false
set_option linter.unusedSimpArgs false
set_option maxRecDepth 10000
namespace Go.Proofs.Ytkolknigffoleaa.Flat
theorem r_laws_szCondS0 {fl : Bool} (k : Nat) (s : List Cond) (hk : 281474976710656 + 4 * wl Cond.w s + 1 ≤ k) (hf : FitL Cond.fits s) (c1 : ∀ c ∈ s, ∀ m : Int, -1 ≤ m → m ≤ 1048576 → run E noExt (k - 1) 26 [c.enc fl, .int .i64 m] [] = some (.int .i64 (left m c.w), [])) (m : Int) (hm : -1 ≤ m) (hm2 : m ≤ 1048576) :
    run E noExt k 29 [.sl fl (s.map (Cond.enc fl)), .int .i64 m] [] = some (.int .i64 (left m (wl Cond.w s)), []) := by
  obtain ⟨k, rfl⟩ : ∃ j, k = j + 1 := ⟨k - 1, by omega⟩
  rw [run_succ rfl rfl, body_eq (nt := 27) (fn := Go.Proofs.Try.f29) (by kernel_rfl) rfl rfl rfl rfl rfl rfl rfl rfl]
  simp -implicitDefEqProofs only [Nat.add_sub_cancel] at c1
  have hs := hf.1
  have hwl := wl_length Cond.w s
  have hw : IntKind.i64.wrap (m - (s.length : Int)) = m - s.length := IntWalk.i64_in _ (by omega)
  simp -implicitDefEqProofs only [W1, ↓D1, ↓DC, Go.Proofs.Try.f29, hw, ifEv_bool, Int.reduceToNat, id_eq, Int.reduceBEq, Int.reduceLE, Int.reduceLT, Nat.reduceAdd, Nat.reduceEqDiff, Nat.reduceLT, Nat.reduceLeDiff, Nat.reduceMul, Nat.reduceSub, reduceIte]
  split
  · rename_i h
    have h' : m - (s.length : Int) < 0 := of_decide_eq_true h
    simp -implicitDefEqProofs only [↓DC, QS, ZRS, ↓ZDS, h, SS, one_ne2, num_ne2, TIS, MDS, Nat.reduceAdd, Nat.reduceEqDiff, Nat.reduceLT, Nat.reduceLeDiff, Nat.reduceMul, Nat.reduceSub, reduceIte]
    rw [left_gt (by omega)]
  · rename_i h
    simp -implicitDefEqProofs only [↓DC, QS, ZRS, ↓ZDS, h, SS, one_ne2, num_ne2, TIS, MDS, Nat.reduceAdd, Nat.reduceEqDiff, Nat.reduceLT, Nat.reduceLeDiff, Nat.reduceMul, Nat.reduceSub, reduceIte]
    have h' : ¬ (m - (s.length : Int) < 0) := of_decide_eq_false h
    rw [ev_loop]
    refine Eq.trans (loop_list (Q := fun g x => thenEnd E.P [] _ 0 (thenEv E _ _ _ _ _ (outOf 0 x)) = some (.int .i64 g, [])) s (szStep Cond.w) id
      (fun i m => { sl := [(0, .sl fl (s.map (Cond.enc fl))), (1, .int .i64 m), (5, .int .i64 (i : Nat))], bx := [], nx := 0, nt := 27 }) (fun i m => 0 ≤ m ∧ m ≤ 1048576) (m - s.length) ?_ ?_ (by omega) ⟨by omega, by omega⟩ ?_) ?_
    · intro m ⟨h1, h2⟩
      simp -implicitDefEqProofs only [W2, ↓D2, ↓DC, QX, leaf_some, isNormal, Int.reduceToNat, id_eq, Int.reduceBEq, Int.reduceLE, Int.reduceLT, Nat.reduceAdd, Nat.reduceEqDiff, Nat.reduceLT, Nat.reduceLeDiff, Nat.reduceMul, Nat.reduceSub, reduceIte]
      repeat' (split <;> (rename_i h; (try simp -implicitDefEqProofs only [Bool.not_eq_true', Bool.not_eq_false', decide_eq_true_eq, decide_eq_false_iff_not] at h); (try simp -implicitDefEqProofs only [W2, ↓D2, ↓DC, QX, *, leaf_some, isNormal, Int.reduceToNat, id_eq, Int.reduceBEq, Int.reduceLE, Int.reduceLT, Nat.reduceAdd, Nat.reduceEqDiff, Nat.reduceLT, Nat.reduceLeDiff, Nat.reduceMul, Nat.reduceSub, reduceIte])))
    · intro pre c r m hs' ⟨h1, h2⟩
      have hx := (at_row hs' hs).1; have hc := (at_row hs' hs).2.1; have hlt := (at_row hs' hs).2.2.1; have hw1 := (at_row hs' hs).2.2.2.1; have hl := (at_row hs' hs).2.2.2.2
      have c2 := c1 c hc m (by omega) h2
      simp -implicitDefEqProofs only [enc_Cond] at c2
      clear hs'
      simp -implicitDefEqProofs only [W2, ↓D2, ↓DC, QX, enc_Cond, hx, hlt, hw1, c2, szStep, keep_29_5, leaf_some, isNormal, Int.reduceToNat, id_eq, Int.reduceBEq, Int.reduceLE, Int.reduceLT, Nat.reduceAdd, Nat.reduceEqDiff, Nat.reduceLT, Nat.reduceLeDiff, Nat.reduceMul, Nat.reduceSub, reduceIte]
      repeat' (split <;> (rename_i h; (try simp -implicitDefEqProofs only [Bool.not_eq_true', Bool.not_eq_false', decide_eq_true_eq, decide_eq_false_iff_not] at h); (try simp -implicitDefEqProofs only [W2, ↓D2, ↓DC, QX, *, enc_Cond, hx, hlt, hw1, c2, szStep, keep_29_5, leaf_some, isNormal, Int.reduceToNat, id_eq, Int.reduceBEq, Int.reduceLE, Int.reduceLT, Nat.reduceAdd, Nat.reduceEqDiff, Nat.reduceLT, Nat.reduceLeDiff, Nat.reduceMul, Nat.reduceSub, reduceIte])))
      exact ⟨by omega, left_hi h2 (by omega)⟩
    · simp -implicitDefEqProofs only [firstRegion]; rw [keep_29_5]; simp -implicitDefEqProofs only [W2, ↓D2, ↓DC, Int.reduceToNat, id_eq, Int.reduceBEq, Int.reduceLE, Int.reduceLT, Nat.reduceAdd, Nat.reduceEqDiff, Nat.reduceLT, Nat.reduceLeDiff, Nat.reduceMul, Nat.reduceSub, reduceIte]; first | done | rfl
    · rw [szLoop _ _ _ _ (by omega)]
      by_cases h2 : ((wl Cond.w s : Nat) : Int) ≤ m
      · rw [left_le h2, left_le (by omega)]; congr 3; omega
      · rw [left_gt (by omega), left_gt (by omega)]
theorem r_laws_szCond {fl : Bool} (k : Nat) (x : Cond) (hk : 281474976710656 + 4 * x.w + 2 ≤ k) (hf : x.fits) (m : Int) (hm : -1 ≤ m) (hm2 : m ≤ 1048576) :
    run E noExt k 26 [x.enc fl, .int .i64 m] [] = some (.int .i64 (left m x.w), []) := by
  induction x using Cond.induct generalizing k m with
  | h x ih =>
    rw [Cond.fits_eq] at hf
    rw [x.w_eq] at hk ⊢
    have c2 := r_laws_szCondS0 (fl := fl) (k - 1) x.args (by omega) hf (fun c hc m h1 h2 => ih c hc _ (by have := wl_mem (w := Cond.w) hc; omega) (hf.2 c hc) m h1 h2) m hm hm2
    have hlo := left_lo (m := wl Cond.w x.args) hm
    obtain ⟨k, rfl⟩ : ∃ j, k = j + 1 := ⟨k - 1, by omega⟩
    rw [run_succ rfl rfl, body_eq (nt := 12) (fn := Go.Proofs.Try.f26) (by kernel_rfl) rfl rfl rfl rfl rfl rfl rfl rfl]
    simp -implicitDefEqProofs only [Nat.add_sub_cancel] at c2
    rw [enc_Cond]
    simp -implicitDefEqProofs only [W1, ↓D1, ↓DC, Go.Proofs.Try.f26, c2, ifEv_bool, Int.reduceToNat, id_eq, Int.reduceBEq, Int.reduceLE, Int.reduceLT, Nat.reduceAdd, Nat.reduceEqDiff, Nat.reduceLT, Nat.reduceLeDiff, Nat.reduceMul, Nat.reduceSub, reduceIte]
    split
    · rename_i h
      have h' := of_decide_eq_true h
      simp -implicitDefEqProofs only [↓DC, QS, ZRS, ↓ZDS, h, SS, one_ne2, num_ne2, TIS, MDS, Nat.reduceAdd, Nat.reduceEqDiff, Nat.reduceLT, Nat.reduceLeDiff, Nat.reduceMul, Nat.reduceSub, reduceIte]
      have : left m (wl Cond.w x.args) = -1 := by omega
      rw [this]
    · rename_i h
      simp -implicitDefEqProofs only [↓DC, QS, ZRS, ↓ZDS, h, SS, one_ne2, num_ne2, TIS, MDS, Nat.reduceAdd, Nat.reduceEqDiff, Nat.reduceLT, Nat.reduceLeDiff, Nat.reduceMul, Nat.reduceSub, reduceIte]
theorem r_laws_szRule {fl : Bool} (k : Nat) (x : Rule) (hk : 281474976710656 + 4 * x.w + 3 ≤ k) (hf : x.fits) (m : Int) (hm : -1 ≤ m) (hm2 : m ≤ 1048576) :
    run E noExt k 19 [x.enc fl, .int .i64 m] [] = some (.int .i64 (left m x.w), []) := by
  obtain ⟨k, rfl⟩ : ∃ j, k = j + 1 := ⟨k - 1, by omega⟩
  rw [run_succ rfl rfl, body_eq (nt := 12) (fn := Go.Proofs.Try.f19) (by kernel_rfl) rfl rfl rfl rfl rfl rfl rfl rfl]
  unfold Rule.w at hk ⊢
  unfold Rule.fits at hf
  have c0 := r_laws_szCond (fl := fl) k x.cond (by omega) (hf) (m) (hm) (hm2)
  simp -implicitDefEqProofs only [enc_Cond, enc_Rule] at c0
  simp -implicitDefEqProofs only [W1, ↓D1, ↓DC, enc_Rule, Go.Proofs.Try.f19, c0, ifEv_bool, Int.reduceToNat, id_eq, Int.reduceBEq, Int.reduceLE, Int.reduceLT, Nat.reduceAdd, Nat.reduceEqDiff, Nat.reduceLT, Nat.reduceLeDiff, Nat.reduceMul, Nat.reduceSub, reduceIte]
  split
  · rename_i h
    have h' := of_decide_eq_true h
    simp -implicitDefEqProofs only [↓DC, QS, ZRS, ↓ZDS, h, SS, one_ne2, num_ne2, TIS, MDS, Nat.reduceAdd, Nat.reduceEqDiff, Nat.reduceLT, Nat.reduceLeDiff, Nat.reduceMul, Nat.reduceSub, reduceIte]
    have hlo := left_lo (m := 0) hm
    congr 3
    unfold left at h' ⊢
    split at h' <;> split <;> omega
  · rename_i h
    simp -implicitDefEqProofs only [W1, ↓D1, ↓DC, h, c0, ifEv_bool, Int.reduceToNat, id_eq, Int.reduceBEq, Int.reduceLE, Int.reduceLT, Nat.reduceAdd, Nat.reduceEqDiff, Nat.reduceLT, Nat.reduceLeDiff, Nat.reduceMul, Nat.reduceSub, reduceIte]
    try simp -implicitDefEqProofs only [left_left hm, Nat.add_assoc]
theorem r_laws_szRuleS {fl : Bool} (k : Nat) (s : List Rule) (hk : 281474976710656 + 4 * wl Rule.w s + 4 ≤ k) (hf : FitL Rule.fits s) (m : Int) (hm : -1 ≤ m) (hm2 : m ≤ 1048576) :
    run E noExt k 11 [.sl fl (s.map (Rule.enc fl)), .int .i64 m] [] = some (.int .i64 (left m (wl Rule.w s)), []) := by
  obtain ⟨k, rfl⟩ : ∃ j, k = j + 1 := ⟨k - 1, by omega⟩
  rw [run_succ rfl rfl, body_eq (nt := 27) (fn := Go.Proofs.Try.f11) (by kernel_rfl) rfl rfl rfl rfl rfl rfl rfl rfl]
  have hs : s.length ≤ 140737488355328 := hf.1
  have hwl := wl_length Rule.w s
  have c1 : ∀ c ∈ s, ∀ m : Int, -1 ≤ m → m ≤ 1048576 → run E noExt k 19 [c.enc fl, .int .i64 m] [] = some (.int .i64 (left m c.w), []) := fun c hc => r_laws_szRule k c (by have := wl_mem (w := Rule.w) hc; omega) (hf.2 c hc)
  have hw : IntKind.i64.wrap (m - (s.length : Int)) = m - s.length := IntWalk.i64_in _ (by omega)
  simp -implicitDefEqProofs only [W1, ↓D1, ↓DC, Go.Proofs.Try.f11, hw, ifEv_bool, Int.reduceToNat, id_eq, Int.reduceBEq, Int.reduceLE, Int.reduceLT, Nat.reduceAdd, Nat.reduceEqDiff, Nat.reduceLT, Nat.reduceLeDiff, Nat.reduceMul, Nat.reduceSub, reduceIte]
  split
  · rename_i h
    have h' : m - (s.length : Int) < 0 := of_decide_eq_true h
    simp -implicitDefEqProofs only [↓DC, QS, ZRS, ↓ZDS, h, SS, one_ne2, num_ne2, TIS, MDS, Nat.reduceAdd, Nat.reduceEqDiff, Nat.reduceLT, Nat.reduceLeDiff, Nat.reduceMul, Nat.reduceSub, reduceIte]
    rw [left_gt (by omega)]
  · rename_i h
    simp -implicitDefEqProofs only [↓DC, QS, ZRS, ↓ZDS, h, SS, one_ne2, num_ne2, TIS, MDS, Nat.reduceAdd, Nat.reduceEqDiff, Nat.reduceLT, Nat.reduceLeDiff, Nat.reduceMul, Nat.reduceSub, reduceIte]
    have h' : ¬ (m - (s.length : Int) < 0) := of_decide_eq_false h
    rw [ev_loop]
    refine Eq.trans (loop_list (Q := fun g x => thenEnd E.P [] _ 0 (thenEv E _ _ _ _ _ (outOf 0 x)) = some (.int .i64 g, [])) s (szStep Rule.w) id
      (fun i m => { sl := [(0, .sl fl (s.map (Rule.enc fl))), (1, .int .i64 m), (5, .int .i64 (i : Nat))], bx := [], nx := 0, nt := 27 }) (fun i m => 0 ≤ m ∧ m ≤ 1048576) (m - s.length) ?_ ?_ (by omega) ⟨by omega, by omega⟩ ?_) ?_
    · intro m ⟨h1, h2⟩
      simp -implicitDefEqProofs only [W2, ↓D2, ↓DC, QX, leaf_some, isNormal, Int.reduceToNat, id_eq, Int.reduceBEq, Int.reduceLE, Int.reduceLT, Nat.reduceAdd, Nat.reduceEqDiff, Nat.reduceLT, Nat.reduceLeDiff, Nat.reduceMul, Nat.reduceSub, reduceIte]
      repeat' (split <;> (rename_i h; (try simp -implicitDefEqProofs only [Bool.not_eq_true', Bool.not_eq_false', decide_eq_true_eq, decide_eq_false_iff_not] at h); (try simp -implicitDefEqProofs only [W2, ↓D2, ↓DC, QX, *, leaf_some, isNormal, Int.reduceToNat, id_eq, Int.reduceBEq, Int.reduceLE, Int.reduceLT, Nat.reduceAdd, Nat.reduceEqDiff, Nat.reduceLT, Nat.reduceLeDiff, Nat.reduceMul, Nat.reduceSub, reduceIte])))
    · intro pre c r m hs' ⟨h1, h2⟩
      have hx := (at_row hs' hs).1; have hc := (at_row hs' hs).2.1; have hlt := (at_row hs' hs).2.2.1; have hw1 := (at_row hs' hs).2.2.2.1; have hl := (at_row hs' hs).2.2.2.2
      have c2 := c1 c hc m (by omega) h2
      simp -implicitDefEqProofs only [enc_Cond, enc_Rule] at c2
      clear hs'
      simp -implicitDefEqProofs only [W2, ↓D2, ↓DC, QX, enc_Cond, enc_Rule, hx, hlt, hw1, c2, szStep, keep_11_5, leaf_some, isNormal, Int.reduceToNat, id_eq, Int.reduceBEq, Int.reduceLE, Int.reduceLT, Nat.reduceAdd, Nat.reduceEqDiff, Nat.reduceLT, Nat.reduceLeDiff, Nat.reduceMul, Nat.reduceSub, reduceIte]
      repeat' (split <;> (rename_i h; (try simp -implicitDefEqProofs only [Bool.not_eq_true', Bool.not_eq_false', decide_eq_true_eq, decide_eq_false_iff_not] at h); (try simp -implicitDefEqProofs only [W2, ↓D2, ↓DC, QX, *, enc_Cond, enc_Rule, hx, hlt, hw1, c2, szStep, keep_11_5, leaf_some, isNormal, Int.reduceToNat, id_eq, Int.reduceBEq, Int.reduceLE, Int.reduceLT, Nat.reduceAdd, Nat.reduceEqDiff, Nat.reduceLT, Nat.reduceLeDiff, Nat.reduceMul, Nat.reduceSub, reduceIte])))
      exact ⟨by omega, left_hi h2 (by omega)⟩
    · simp -implicitDefEqProofs only [firstRegion]; rw [keep_11_5]; simp -implicitDefEqProofs only [W2, ↓D2, ↓DC, Int.reduceToNat, id_eq, Int.reduceBEq, Int.reduceLE, Int.reduceLT, Nat.reduceAdd, Nat.reduceEqDiff, Nat.reduceLT, Nat.reduceLeDiff, Nat.reduceMul, Nat.reduceSub, reduceIte]; first | done | rfl
    · rw [szLoop _ _ _ _ (by omega)]
      by_cases h2 : ((wl Rule.w s : Nat) : Int) ≤ m
      · rw [left_le h2, left_le (by omega)]; congr 3; omega
      · rw [left_gt (by omega), left_gt (by omega)]
theorem r_laws_szPolicy {fl : Bool} (k : Nat) (x : Policy) (hk : 281474976710656 + 4 * x.w + 5 ≤ k) (hf : x.fits) (m : Int) (hm : -1 ≤ m) (hm2 : m ≤ 1048576) :
    run E noExt k 4 [x.enc fl, .int .i64 m] [] = some (.int .i64 (left m x.w), []) := by
  obtain ⟨k, rfl⟩ : ∃ j, k = j + 1 := ⟨k - 1, by omega⟩
  rw [run_succ rfl rfl, body_eq (nt := 12) (fn := Go.Proofs.Try.f4) (by kernel_rfl) rfl rfl rfl rfl rfl rfl rfl rfl]
  unfold Policy.w at hk ⊢
  unfold Policy.fits at hf
  have c0 := r_laws_szRuleS (fl := fl) k x.rules (by omega) (hf) (m) (hm) (hm2)
  simp -implicitDefEqProofs only [W1, ↓D1, ↓DC, enc_Policy, Go.Proofs.Try.f4, c0, ifEv_bool, Int.reduceToNat, id_eq, Int.reduceBEq, Int.reduceLE, Int.reduceLT, Nat.reduceAdd, Nat.reduceEqDiff, Nat.reduceLT, Nat.reduceLeDiff, Nat.reduceMul, Nat.reduceSub, reduceIte]
  split
  · rename_i h
    have h' := of_decide_eq_true h
    simp -implicitDefEqProofs only [↓DC, QS, ZRS, ↓ZDS, h, SS, one_ne2, num_ne2, TIS, MDS, Nat.reduceAdd, Nat.reduceEqDiff, Nat.reduceLT, Nat.reduceLeDiff, Nat.reduceMul, Nat.reduceSub, reduceIte]
    have hlo := left_lo (m := 0) hm
    congr 3
    unfold left at h' ⊢
    split at h' <;> split <;> omega
  · rename_i h
    simp -implicitDefEqProofs only [W1, ↓D1, ↓DC, h, c0, ifEv_bool, Int.reduceToNat, id_eq, Int.reduceBEq, Int.reduceLE, Int.reduceLT, Nat.reduceAdd, Nat.reduceEqDiff, Nat.reduceLT, Nat.reduceLeDiff, Nat.reduceMul, Nat.reduceSub, reduceIte]
    try simp -implicitDefEqProofs only [left_left hm, Nat.add_assoc]
theorem r_laws_toCondS0 {fl : Bool} (k : Nat) (s : List Cond) (hk : 281474976710656 + 4 * wl Cond.w s + 1 ≤ k) (hs0 : wl Cond.w s ≤ 1099511627776) (c1 : ∀ c ∈ s, run E noExt (k - 1) 27 [c.enc fl] [] = some (c.encT, [])) : run E noExt k 30 [.sl fl (s.map (Cond.enc fl))] [] = some (.own 0 false 41 4 (s.map Cond.tenc), []) := by
  obtain ⟨k, rfl⟩ : ∃ j, k = j + 1 := ⟨k - 1, by omega⟩
  rw [run_succ rfl rfl, body_eq (nt := 23) (fn := Go.Proofs.Try.f30) (by kernel_rfl) rfl rfl rfl rfl rfl rfl rfl rfl]
  simp -implicitDefEqProofs only [Nat.add_sub_cancel] at c1
  have hs1 : s.length ≤ 1099511627776 := Nat.le_trans (wl_length _ s) hs0
  have hs : s.length ≤ 140737488355328 := by omega
  simp -implicitDefEqProofs only [W1, ↓D1, ↓DC, Go.Proofs.Try.f30, ifEv_bool, Int.reduceToNat, id_eq, Int.reduceBEq, Int.reduceLE, Int.reduceLT, Nat.reduceAdd, Nat.reduceEqDiff, Nat.reduceLT, Nat.reduceLeDiff, Nat.reduceMul, Nat.reduceSub, reduceIte]
  rw [makeSlice_own (n := s.length) (ti := _) (te := _) sl39 ti39 ti41 (by rfl) (by dsimp only; omega) (by omega) (by decide)]
  simp -implicitDefEqProofs only [W1, ↓D1, ↓DC, Int.reduceToNat, id_eq, Int.reduceBEq, Int.reduceLE, Int.reduceLT, Nat.reduceAdd, Nat.reduceEqDiff, Nat.reduceLT, Nat.reduceLeDiff, Nat.reduceMul, Nat.reduceSub, reduceIte]
  rw [ev_loop]
  refine Eq.trans (loop_list (Q := fun g x => thenEnd E.P [] _ 0 (thenEv E _ _ _ _ _ (outOf 0 x)) = some (.own 0 false 41 4 g, [])) s (toStep Cond.tenc) id
    (fun i b => { sl := [(0, .sl fl (s.map (Cond.enc fl))), (3, .own 0 false 41 4 b), (4, .int .i64 (i : Nat))], bx := [], nx := 1, nt := 23, tree := true }) (fun i b => b.length = s.length ∧ (∀ y ∈ b, ∃ cs, y = .agg cs ∧ cs.length = 4)) (List.replicate s.length (.agg [.int .i64 0, .int .i64 0, .int .i64 0, .sl true []])) ?_ ?_ (by omega) ⟨by simp, ?_⟩ ?_) ?_
  · intro b ⟨h1, h2⟩
    simp -implicitDefEqProofs only [W3, ↓D3, ↓DA, ↓DP, ↓DC, QX, SH, leaf_some, isNormal, Int.reduceToNat, id_eq, Int.reduceBEq, Int.reduceLE, Int.reduceLT, Nat.reduceAdd, Nat.reduceEqDiff, Nat.reduceLT, Nat.reduceLeDiff, Nat.reduceMul, Nat.reduceSub, reduceIte]
    repeat' (split <;> (rename_i h; (try simp -implicitDefEqProofs only [Bool.not_eq_true', Bool.not_eq_false', decide_eq_true_eq, decide_eq_false_iff_not] at h); (try simp -implicitDefEqProofs only [W3, ↓D3, ↓DA, ↓DP, ↓DC, QX, *, SH, leaf_some, isNormal, Int.reduceToNat, id_eq, Int.reduceBEq, Int.reduceLE, Int.reduceLT, Nat.reduceAdd, Nat.reduceEqDiff, Nat.reduceLT, Nat.reduceLeDiff, Nat.reduceMul, Nat.reduceSub, reduceIte])))
    all_goals first | trivial | (refine ⟨trivial, ?_⟩; rfl)
  · intro pre c r b hs' ⟨h1, h2⟩
    have hx := (at_row hs' hs).1; have hc := (at_row hs' hs).2.1; have hlt := (at_row hs' hs).2.2.1; have hw1 := (at_row hs' hs).2.2.2.1; have hl := (at_row hs' hs).2.2.2.2
    have hl1 : pre.length < b.length := by omega
    have hl2 : ((pre.length : Nat) : Int) < ((b.length : Nat) : Int) := by omega
    have c2 := c1 c hc
    simp -implicitDefEqProofs only [enc_Cond, Cond.encT] at c2
    have htt := @tenc_Cond c
    obtain ⟨y, hy⟩ : ∃ y, b[pre.length]? = some y := ⟨_, List.getElem?_eq_getElem hl1⟩
    obtain ⟨cs, rfl, hcs⟩ := h2 y (List.mem_of_getElem? hy)
    have hset : ∀ y ∈ b.set pre.length (Cond.tenc c), ∃ cs, y = .agg cs ∧ cs.length = 4 := by
      intro y hy
      rcases List.mem_or_eq_of_mem_set hy with hy | rfl
      · exact h2 y hy
      · exact ⟨_, tenc_Cond, rfl⟩
    clear hs'
    simp -implicitDefEqProofs only [W3, ↓D3, ↓DA, ↓DP, ↓DC, QX, enc_Cond, tenc_Cond, c2, hx, hlt, hl2, hw1, hy, hcs, (List.drop_of_length_le (Nat.le_of_eq hcs)), toStep, SH, keep_30_3, leaf_some, isNormal, Int.reduceToNat, id_eq, Int.reduceBEq, Int.reduceLE, Int.reduceLT, Nat.reduceAdd, Nat.reduceEqDiff, Nat.reduceLT, Nat.reduceLeDiff, Nat.reduceMul, Nat.reduceSub, reduceIte]
    repeat' (split <;> (rename_i h; (try simp -implicitDefEqProofs only [Bool.not_eq_true', Bool.not_eq_false', decide_eq_true_eq, decide_eq_false_iff_not] at h); (try simp -implicitDefEqProofs only [W3, ↓D3, ↓DA, ↓DP, ↓DC, QX, *, enc_Cond, tenc_Cond, c2, hx, hlt, hl2, hw1, hy, hcs, (List.drop_of_length_le (Nat.le_of_eq hcs)), toStep, SH, keep_30_3, leaf_some, isNormal, Int.reduceToNat, id_eq, Int.reduceBEq, Int.reduceLE, Int.reduceLT, Nat.reduceAdd, Nat.reduceEqDiff, Nat.reduceLT, Nat.reduceLeDiff, Nat.reduceMul, Nat.reduceSub, reduceIte])))
    simp -implicitDefEqProofs only [enc_Cond, tenc_Cond] at hset
    exact ⟨by rw [List.length_set, h1], hset⟩
  · intro y hy
    rw [List.mem_replicate] at hy
    exact ⟨_, hy.2, rfl⟩
  · simp -implicitDefEqProofs only [firstRegion]; rw [keep_30_3]; simp -implicitDefEqProofs only [W2, ↓D2, ↓DC, Int.reduceToNat, id_eq, Int.reduceBEq, Int.reduceLE, Int.reduceLT, Nat.reduceAdd, Nat.reduceEqDiff, Nat.reduceLT, Nat.reduceLeDiff, Nat.reduceMul, Nat.reduceSub, reduceIte]; first | done | rfl
  · rw [toLoop _ _ _ _ (by simp)]
    simp
theorem r_laws_toCond0 {fl : Bool} (x : Cond) : ∀ (k : Nat), 281474976710656 + 4 * x.w + 2 ≤ k → x.w ≤ 1099511627776 → run E noExt k 27 [x.enc fl] [] = some (x.encT, []) := by
  induction x using Cond.induct with
  | h x ih =>
    intro k hk hx
    rw [x.w_eq] at hk hx
    have c2 := r_laws_toCondS0 (fl := fl) (k - 1) x.args (by omega) hx (fun c hc => ih c hc _ (by have := wl_mem (w := Cond.w) hc; omega) (by have := wl_mem (w := Cond.w) hc; omega))
    obtain ⟨k, rfl⟩ : ∃ j, k = j + 1 := ⟨k - 1, by omega⟩
    rw [run_succ rfl rfl, body_eq (nt := 18) (fn := Go.Proofs.Try.f27) (by kernel_rfl) rfl rfl rfl rfl rfl rfl rfl rfl]
    simp -implicitDefEqProofs only [Nat.add_sub_cancel] at c2
    simp -implicitDefEqProofs only [W3, ↓D3, ↓DA, ↓DP, ↓DC, enc_Cond, Go.Proofs.Try.f27, c2, SH, Int.reduceToNat, id_eq, Int.reduceBEq, Int.reduceLE, Int.reduceLT, Nat.reduceAdd, Nat.reduceEqDiff, Nat.reduceLT, Nat.reduceLeDiff, Nat.reduceMul, Nat.reduceSub, reduceIte]
    rfl
theorem r_laws_toCond {fl : Bool} (k : Nat) (hk : 290271069732864 + 2 ≤ k) (x : Cond) (hx : x.w ≤ 1099511627776) : run E noExt k 27 [x.enc fl] [] = some (x.encT, []) := r_laws_toCond0 x k (by omega) hx
theorem r_laws_toRule {fl : Bool} (k : Nat) (hk : 290271069732864 + 4 ≤ k) (x : Rule) (hx : x.w ≤ 1099511627776) : run E noExt k 21 [x.enc fl] [] = some (x.encT, []) := by
  obtain ⟨k, rfl⟩ : ∃ j, k = j + 1 := ⟨k - 1, by omega⟩
  rw [run_succ rfl rfl, body_eq (nt := 18) (fn := Go.Proofs.Try.f21) (by kernel_rfl) rfl rfl rfl rfl rfl rfl rfl rfl]
  unfold Rule.w at hx
  have c_cond := r_laws_toCond (fl := fl) k (by omega) x.cond (by omega)
  simp -implicitDefEqProofs only [enc_Cond, enc_Rule, Cond.encT] at c_cond
  simp -implicitDefEqProofs only [↓DA, ↓DP, ↓DC, QS, QG, QO, ZRS, ↓ZDS, ZRG, ↓ZDG, ZRO, ↓ZDO, enc_Rule, Go.Proofs.Try.f21, c_cond, SO, SH, SS, one_ne2, num_ne2, TIS, MDS, Nat.reduceAdd, Nat.reduceEqDiff, Nat.reduceLT, Nat.reduceLeDiff, Nat.reduceMul, Nat.reduceSub, reduceIte]
  rfl
theorem r_laws_toRuleS {fl : Bool} (k : Nat) (hk : 290271069732864 + 5 ≤ k) (s : List Rule) (hs0 : wl Rule.w s ≤ 1099511627776) : run E noExt k 14 [.sl fl (s.map (Rule.enc fl))] [] = some (.own 0 false 43 7 (s.map Rule.tenc), []) := by
  obtain ⟨k, rfl⟩ : ∃ j, k = j + 1 := ⟨k - 1, by omega⟩
  rw [run_succ rfl rfl, body_eq (nt := 23) (fn := Go.Proofs.Try.f14) (by kernel_rfl) rfl rfl rfl rfl rfl rfl rfl rfl]
  have hs1 : s.length ≤ 1099511627776 := Nat.le_trans (wl_length _ s) hs0
  have c1 : ∀ c ∈ s, run E noExt k 21 [c.enc fl] [] = some (c.encT, []) := fun c hc => r_laws_toRule k (by omega) c (by have := wl_mem (w := Rule.w) hc; omega)
  have hs : s.length ≤ 140737488355328 := by omega
  simp -implicitDefEqProofs only [W1, ↓D1, ↓DC, Go.Proofs.Try.f14, ifEv_bool, Int.reduceToNat, id_eq, Int.reduceBEq, Int.reduceLE, Int.reduceLT, Nat.reduceAdd, Nat.reduceEqDiff, Nat.reduceLT, Nat.reduceLeDiff, Nat.reduceMul, Nat.reduceSub, reduceIte]
  rw [makeSlice_own (n := s.length) (ti := _) (te := _) sl26 ti26 ti43 (by rfl) (by dsimp only; omega) (by omega) (by decide)]
  simp -implicitDefEqProofs only [W1, ↓D1, ↓DC, Int.reduceToNat, id_eq, Int.reduceBEq, Int.reduceLE, Int.reduceLT, Nat.reduceAdd, Nat.reduceEqDiff, Nat.reduceLT, Nat.reduceLeDiff, Nat.reduceMul, Nat.reduceSub, reduceIte]
  rw [ev_loop]
  refine Eq.trans (loop_list (Q := fun g x => thenEnd E.P [] _ 0 (thenEv E _ _ _ _ _ (outOf 0 x)) = some (.own 0 false 43 7 g, [])) s (toStep Rule.tenc) id
    (fun i b => { sl := [(0, .sl fl (s.map (Rule.enc fl))), (3, .own 0 false 43 7 b), (4, .int .i64 (i : Nat))], bx := [], nx := 1, nt := 23, tree := true }) (fun i b => b.length = s.length ∧ (∀ y ∈ b, ∃ cs, y = .agg cs ∧ cs.length = 7)) (List.replicate s.length (.agg [.int .i64 0, .int .i64 0, .int .i64 0, .int .i64 0, .int .i64 0, .int .i64 0, .sl true []])) ?_ ?_ (by omega) ⟨by simp, ?_⟩ ?_) ?_
  · intro b ⟨h1, h2⟩
    simp -implicitDefEqProofs only [W3, ↓D3, ↓DA, ↓DP, ↓DC, QX, SH, leaf_some, isNormal, Int.reduceToNat, id_eq, Int.reduceBEq, Int.reduceLE, Int.reduceLT, Nat.reduceAdd, Nat.reduceEqDiff, Nat.reduceLT, Nat.reduceLeDiff, Nat.reduceMul, Nat.reduceSub, reduceIte]
    repeat' (split <;> (rename_i h; (try simp -implicitDefEqProofs only [Bool.not_eq_true', Bool.not_eq_false', decide_eq_true_eq, decide_eq_false_iff_not] at h); (try simp -implicitDefEqProofs only [W3, ↓D3, ↓DA, ↓DP, ↓DC, QX, *, SH, leaf_some, isNormal, Int.reduceToNat, id_eq, Int.reduceBEq, Int.reduceLE, Int.reduceLT, Nat.reduceAdd, Nat.reduceEqDiff, Nat.reduceLT, Nat.reduceLeDiff, Nat.reduceMul, Nat.reduceSub, reduceIte])))
    all_goals first | trivial | (refine ⟨trivial, ?_⟩; rfl)
  · intro pre c r b hs' ⟨h1, h2⟩
    have hx := (at_row hs' hs).1; have hc := (at_row hs' hs).2.1; have hlt := (at_row hs' hs).2.2.1; have hw1 := (at_row hs' hs).2.2.2.1; have hl := (at_row hs' hs).2.2.2.2
    have hl1 : pre.length < b.length := by omega
    have hl2 : ((pre.length : Nat) : Int) < ((b.length : Nat) : Int) := by omega
    have c2 := c1 c hc
    simp -implicitDefEqProofs only [enc_Cond, enc_Rule, Rule.encT] at c2
    have htt := @tenc_Rule c
    obtain ⟨y, hy⟩ : ∃ y, b[pre.length]? = some y := ⟨_, List.getElem?_eq_getElem hl1⟩
    obtain ⟨cs, rfl, hcs⟩ := h2 y (List.mem_of_getElem? hy)
    have hset : ∀ y ∈ b.set pre.length (Rule.tenc c), ∃ cs, y = .agg cs ∧ cs.length = 7 := by
      intro y hy
      rcases List.mem_or_eq_of_mem_set hy with hy | rfl
      · exact h2 y hy
      · exact ⟨_, tenc_Rule, rfl⟩
    clear hs'
    simp -implicitDefEqProofs only [W3, ↓D3, ↓DA, ↓DP, ↓DC, QX, enc_Cond, enc_Rule, tenc_Rule, c2, hx, hlt, hl2, hw1, hy, hcs, (List.drop_of_length_le (Nat.le_of_eq hcs)), toStep, SH, keep_14_3, leaf_some, isNormal, Int.reduceToNat, id_eq, Int.reduceBEq, Int.reduceLE, Int.reduceLT, Nat.reduceAdd, Nat.reduceEqDiff, Nat.reduceLT, Nat.reduceLeDiff, Nat.reduceMul, Nat.reduceSub, reduceIte]
    repeat' (split <;> (rename_i h; (try simp -implicitDefEqProofs only [Bool.not_eq_true', Bool.not_eq_false', decide_eq_true_eq, decide_eq_false_iff_not] at h); (try simp -implicitDefEqProofs only [W3, ↓D3, ↓DA, ↓DP, ↓DC, QX, *, enc_Cond, enc_Rule, tenc_Rule, c2, hx, hlt, hl2, hw1, hy, hcs, (List.drop_of_length_le (Nat.le_of_eq hcs)), toStep, SH, keep_14_3, leaf_some, isNormal, Int.reduceToNat, id_eq, Int.reduceBEq, Int.reduceLE, Int.reduceLT, Nat.reduceAdd, Nat.reduceEqDiff, Nat.reduceLT, Nat.reduceLeDiff, Nat.reduceMul, Nat.reduceSub, reduceIte])))
    simp -implicitDefEqProofs only [enc_Cond, enc_Rule, tenc_Rule] at hset
    exact ⟨by rw [List.length_set, h1], hset⟩
  · intro y hy
    rw [List.mem_replicate] at hy
    exact ⟨_, hy.2, rfl⟩
  · simp -implicitDefEqProofs only [firstRegion]; rw [keep_14_3]; simp -implicitDefEqProofs only [W2, ↓D2, ↓DC, Int.reduceToNat, id_eq, Int.reduceBEq, Int.reduceLE, Int.reduceLT, Nat.reduceAdd, Nat.reduceEqDiff, Nat.reduceLT, Nat.reduceLeDiff, Nat.reduceMul, Nat.reduceSub, reduceIte]; first | done | rfl
  · rw [toLoop _ _ _ _ (by simp)]
    simp
theorem r_laws_toPolicy {fl : Bool} (k : Nat) (hk : 290271069732864 + 6 ≤ k) (x : Policy) (hx : x.w ≤ 1099511627776) : run E noExt k 6 [x.enc fl] [] = some (x.encT, []) := by
  obtain ⟨k, rfl⟩ : ∃ j, k = j + 1 := ⟨k - 1, by omega⟩
  rw [run_succ rfl rfl, body_eq (nt := 12) (fn := Go.Proofs.Try.f6) (by kernel_rfl) rfl rfl rfl rfl rfl rfl rfl rfl]
  unfold Policy.w at hx
  have c_rules := r_laws_toRuleS (fl := fl) k (by omega) x.rules (by omega)
  simp -implicitDefEqProofs only [↓DA, ↓DP, ↓DC, QS, QG, QO, ZRS, ↓ZDS, ZRG, ↓ZDG, ZRO, ↓ZDO, enc_Policy, Go.Proofs.Try.f6, c_rules, SO, SH, SS, one_ne2, num_ne2, TIS, MDS, Nat.reduceAdd, Nat.reduceEqDiff, Nat.reduceLT, Nat.reduceLeDiff, Nat.reduceMul, Nat.reduceSub, reduceIte]
  rfl
theorem eqb_Cond (x y : Cond) : decide (x = y) = ((x.op == y.op) && ((x.a == y.a) && ((x.b == y.b) && decide (x.args = y.args)))) := by
  cases x; cases y
  rw [Bool.eq_iff_iff]
  simp [Cond.mk.injEq]
theorem eqb_Rule (x y : Rule) : decide (x = y) = ((x.effect == y.effect) && ((x.action == y.action) && ((x.object == y.object) && decide (x.cond = y.cond)))) := by
  cases x; cases y
  rw [Bool.eq_iff_iff]
  simp [Rule.mk.injEq]
theorem eqb_Policy (x y : Policy) : decide (x = y) = ((x.version == y.version) && decide (x.rules = y.rules)) := by
  cases x; cases y
  rw [Bool.eq_iff_iff]
  simp [Policy.mk.injEq]
theorem r_laws_eqCondS0 {fl gl : Bool} (k : Nat) (s t : List Cond) (hk : 281474976710656 + 4 * wl Cond.w s + 1 ≤ k) (hs0 : wl Cond.w s ≤ 1099511627776) (c1 : ∀ x ∈ s, ∀ y, run E noExt (k - 1) 28 [x.enc fl, y.enc gl] [] = some (.bool (decide (x = y)), [])) : run E noExt k 31 [.sl fl (s.map (Cond.enc fl)), .sl gl (t.map (Cond.enc gl))] [] = some (.bool (decide (s = t)), []) := by
  obtain ⟨k, rfl⟩ : ∃ j, k = j + 1 := ⟨k - 1, by omega⟩
  rw [run_succ rfl rfl, body_eq (nt := 27) (fn := Go.Proofs.Try.f31) (by kernel_rfl) rfl rfl rfl rfl rfl rfl rfl rfl]
  simp -implicitDefEqProofs only [Nat.add_sub_cancel] at c1
  have hs1 : s.length ≤ 1099511627776 := Nat.le_trans (wl_length _ s) hs0
  have hs : s.length ≤ 140737488355328 := by omega
  simp -implicitDefEqProofs only [W1, ↓D1, ↓DC, Go.Proofs.Try.f31, ifEv_bool, bne, Int.reduceToNat, id_eq, Int.reduceBEq, Int.reduceLE, Int.reduceLT, Nat.reduceAdd, Nat.reduceEqDiff, Nat.reduceLT, Nat.reduceLeDiff, Nat.reduceMul, Nat.reduceSub, reduceIte]
  split
  · rename_i h
    have h' : s ≠ t := by
      rintro rfl
      simp at h
    simp -implicitDefEqProofs only [↓DC, QS, ZRS, ↓ZDS, h, h', SS, one_ne2, num_ne2, TIS, MDS, Nat.reduceAdd, Nat.reduceEqDiff, Nat.reduceLT, Nat.reduceLeDiff, Nat.reduceMul, Nat.reduceSub, reduceIte]
  · rename_i h
    have hl : s.length = t.length := by
      have h2 : (s.length : Int) = t.length := by simpa using h
      omega
    simp -implicitDefEqProofs only [↓DC, QS, ZRS, ↓ZDS, h, SS, one_ne2, num_ne2, TIS, MDS, Nat.reduceAdd, Nat.reduceEqDiff, Nat.reduceLT, Nat.reduceLeDiff, Nat.reduceMul, Nat.reduceSub, reduceIte]
    rw [ev_loop]
    refine Eq.trans (loop_list (Q := fun g x => thenEnd E.P [] _ 0 (thenEv E _ _ _ _ _ (outOf 0 x)) = some (.bool g, [])) (s.zip t) eqStep (fun _ => true)
      (fun i _ => { sl := [(0, .sl fl (s.map (Cond.enc fl))), (1, .sl gl (t.map (Cond.enc gl))), (5, .int .i64 (i : Nat))], bx := [], nx := 0, nt := 27 }) (fun _ _ => True) () ?_ ?_ (by simp; omega) trivial ?_) ?_
    · intro b _
      have hz : (s.zip t).length = s.length := by simp; omega
      simp -implicitDefEqProofs only [W2, ↓D2, ↓DC, QX, hz, leaf_some, isNormal, Int.reduceToNat, id_eq, Int.reduceBEq, Int.reduceLE, Int.reduceLT, Nat.reduceAdd, Nat.reduceEqDiff, Nat.reduceLT, Nat.reduceLeDiff, Nat.reduceMul, Nat.reduceSub, reduceIte]
      repeat' (split <;> (rename_i h; (try simp -implicitDefEqProofs only [Bool.not_eq_true', Bool.not_eq_false', decide_eq_true_eq, decide_eq_false_iff_not] at h); (try simp -implicitDefEqProofs only [W2, ↓D2, ↓DC, QX, *, hz, leaf_some, isNormal, Int.reduceToNat, id_eq, Int.reduceBEq, Int.reduceLE, Int.reduceLT, Nat.reduceAdd, Nat.reduceEqDiff, Nat.reduceLT, Nat.reduceLeDiff, Nat.reduceMul, Nat.reduceSub, reduceIte])))
    · intro pre p r b hs' _
      have hx := (zip_at hl hs').1
      have hy := (zip_at hl hs').2.1
      have e1 := (zip_at hl hs').2.2.1
      have hlt := (at_row (s := s) (pre := pre.map Prod.fst) e1 hs).2.2.1
      have hw1 := (at_row (s := s) (pre := pre.map Prod.fst) e1 hs).2.2.2.1
      have hc := (at_row (s := s) (pre := pre.map Prod.fst) e1 hs).2.1
      simp -implicitDefEqProofs only [List.length_map] at hlt hw1
      clear e1 hs'
      have c2 := c1 p.1 hc p.2
      simp -implicitDefEqProofs only [enc_Cond] at c2
      simp -implicitDefEqProofs only [W2, ↓D2, ↓DC, QX, enc_Cond, hx, hy, hlt, hw1, c2, eqStep, plan_31_6, keep_31_4, leaf_some, isNormal, Int.reduceToNat, id_eq, Int.reduceBEq, Int.reduceLE, Int.reduceLT, Nat.reduceAdd, Nat.reduceEqDiff, Nat.reduceLT, Nat.reduceLeDiff, Nat.reduceMul, Nat.reduceSub, reduceIte]
      repeat' (split <;> (rename_i h; (try simp -implicitDefEqProofs only [Bool.not_eq_true', Bool.not_eq_false', decide_eq_true_eq, decide_eq_false_iff_not] at h); (try simp -implicitDefEqProofs only [W2, ↓D2, ↓DC, QX, *, enc_Cond, hx, hy, hlt, hw1, c2, eqStep, plan_31_6, keep_31_4, leaf_some, isNormal, Int.reduceToNat, id_eq, Int.reduceBEq, Int.reduceLE, Int.reduceLT, Nat.reduceAdd, Nat.reduceEqDiff, Nat.reduceLT, Nat.reduceLeDiff, Nat.reduceMul, Nat.reduceSub, reduceIte])))
      all_goals first | done | trivial
    · simp -implicitDefEqProofs only [firstRegion]; rw [keep_31_4]; simp -implicitDefEqProofs only [W2, ↓D2, ↓DC, Int.reduceToNat, id_eq, Int.reduceBEq, Int.reduceLE, Int.reduceLT, Nat.reduceAdd, Nat.reduceEqDiff, Nat.reduceLT, Nat.reduceLeDiff, Nat.reduceMul, Nat.reduceSub, reduceIte]; first | done | rfl
    · rw [eqLoop _ _ _ hl]
theorem r_laws_eqCond0 {fl gl : Bool} (x : Cond) : ∀ (k : Nat), 281474976710656 + 4 * x.w + 2 ≤ k → x.w ≤ 1099511627776 → ∀ y, run E noExt k 28 [x.enc fl, y.enc gl] [] = some (.bool (decide (x = y)), []) := by
  induction x using Cond.induct with
  | h x ih =>
    intro k hk hx y
    rw [x.w_eq] at hk hx
    have c2 := r_laws_eqCondS0 (fl := fl) (gl := gl) (k - 1) x.args y.args (by omega) hx (fun c hc => ih c hc _ (by have := wl_mem (w := Cond.w) hc; omega) (by have := wl_mem (w := Cond.w) hc; omega))
    clear ih
    obtain ⟨k, rfl⟩ : ∃ j, k = j + 1 := ⟨k - 1, by omega⟩
    rw [run_succ rfl rfl, body_eq (nt := 26) (fn := Go.Proofs.Try.f28) (by kernel_rfl) rfl rfl rfl rfl rfl rfl rfl rfl]
    simp -implicitDefEqProofs only [Nat.add_sub_cancel] at c2
    rw [eqb_Cond]
    simp -implicitDefEqProofs only [W1, ↓D1, ↓DC, QX, Go.Proofs.Try.f28, enc_Cond, bne, c2, Int.reduceToNat, id_eq, Int.reduceBEq, Int.reduceLE, Int.reduceLT, Nat.reduceAdd, Nat.reduceEqDiff, Nat.reduceLT, Nat.reduceLeDiff, Nat.reduceMul, Nat.reduceSub, reduceIte]
    repeat' (split <;> (rename_i h; (try simp -implicitDefEqProofs only [Bool.not_eq_true', Bool.not_eq_false', decide_eq_true_eq, decide_eq_false_iff_not] at h); (try simp -implicitDefEqProofs only [W1, ↓D1, ↓DC, QX, *, enc_Cond, bne, c2, Int.reduceToNat, id_eq, Int.reduceBEq, Int.reduceLE, Int.reduceLT, Nat.reduceAdd, Nat.reduceEqDiff, Nat.reduceLT, Nat.reduceLeDiff, Nat.reduceMul, Nat.reduceSub, reduceIte])))
    all_goals simp -implicitDefEqProofs only [*, Bool.true_and, Bool.false_and, Bool.and_true, Bool.and_false, Bool.false_eq_true, reduceIte]
theorem r_laws_eqCond {fl gl : Bool} (k : Nat) (hk : 290271069732864 + 2 ≤ k) (x y : Cond) (hx : x.w ≤ 1099511627776) : run E noExt k 28 [x.enc fl, y.enc gl] [] = some (.bool (decide (x = y)), []) := r_laws_eqCond0 x k (by omega) hx y
theorem r_laws_eqRule {fl gl : Bool} (k : Nat) (hk : 290271069732864 + 4 ≤ k) (x y : Rule) (hx : x.w ≤ 1099511627776) : run E noExt k 23 [x.enc fl, y.enc gl] [] = some (.bool (decide (x = y)), []) := by
  obtain ⟨k, rfl⟩ : ∃ j, k = j + 1 := ⟨k - 1, by omega⟩
  rw [run_succ rfl rfl, body_eq (nt := 26) (fn := Go.Proofs.Try.f23) (by kernel_rfl) rfl rfl rfl rfl rfl rfl rfl rfl]
  unfold Rule.w at hx
  have c_cond := r_laws_eqCond (fl := fl) (gl := gl) k (by omega) x.cond y.cond (by omega)
  simp -implicitDefEqProofs only [enc_Cond] at c_cond
  rw [eqb_Rule]
  simp -implicitDefEqProofs only [W1, ↓D1, ↓DC, QX, Go.Proofs.Try.f23, enc_Rule, bne, c_cond, Int.reduceToNat, id_eq, Int.reduceBEq, Int.reduceLE, Int.reduceLT, Nat.reduceAdd, Nat.reduceEqDiff, Nat.reduceLT, Nat.reduceLeDiff, Nat.reduceMul, Nat.reduceSub, reduceIte]
  repeat' (split <;> (rename_i h; (try simp -implicitDefEqProofs only [Bool.not_eq_true', Bool.not_eq_false', decide_eq_true_eq, decide_eq_false_iff_not] at h); (try simp -implicitDefEqProofs only [W1, ↓D1, ↓DC, QX, *, enc_Rule, bne, c_cond, Int.reduceToNat, id_eq, Int.reduceBEq, Int.reduceLE, Int.reduceLT, Nat.reduceAdd, Nat.reduceEqDiff, Nat.reduceLT, Nat.reduceLeDiff, Nat.reduceMul, Nat.reduceSub, reduceIte])))
  all_goals simp -implicitDefEqProofs only [*, Bool.true_and, Bool.false_and, Bool.and_true, Bool.and_false, Bool.false_eq_true, reduceIte]
theorem r_laws_eqRuleS {fl gl : Bool} (k : Nat) (hk : 290271069732864 + 5 ≤ k) (s t : List Rule) (hs0 : wl Rule.w s ≤ 1099511627776) : run E noExt k 16 [.sl fl (s.map (Rule.enc fl)), .sl gl (t.map (Rule.enc gl))] [] = some (.bool (decide (s = t)), []) := by
  obtain ⟨k, rfl⟩ : ∃ j, k = j + 1 := ⟨k - 1, by omega⟩
  rw [run_succ rfl rfl, body_eq (nt := 27) (fn := Go.Proofs.Try.f16) (by kernel_rfl) rfl rfl rfl rfl rfl rfl rfl rfl]
  have hs1 : s.length ≤ 1099511627776 := Nat.le_trans (wl_length _ s) hs0
  have c1 : ∀ x ∈ s, ∀ y, run E noExt k 23 [x.enc fl, y.enc gl] [] = some (.bool (decide (x = y)), []) := fun x hx y => r_laws_eqRule k (by omega) x y (by have := wl_mem (w := Rule.w) hx; omega)
  have hs : s.length ≤ 140737488355328 := by omega
  simp -implicitDefEqProofs only [W1, ↓D1, ↓DC, Go.Proofs.Try.f16, ifEv_bool, bne, Int.reduceToNat, id_eq, Int.reduceBEq, Int.reduceLE, Int.reduceLT, Nat.reduceAdd, Nat.reduceEqDiff, Nat.reduceLT, Nat.reduceLeDiff, Nat.reduceMul, Nat.reduceSub, reduceIte]
  split
  · rename_i h
    have h' : s ≠ t := by
      rintro rfl
      simp at h
    simp -implicitDefEqProofs only [↓DC, QS, ZRS, ↓ZDS, h, h', SS, one_ne2, num_ne2, TIS, MDS, Nat.reduceAdd, Nat.reduceEqDiff, Nat.reduceLT, Nat.reduceLeDiff, Nat.reduceMul, Nat.reduceSub, reduceIte]
  · rename_i h
    have hl : s.length = t.length := by
      have h2 : (s.length : Int) = t.length := by simpa using h
      omega
    simp -implicitDefEqProofs only [↓DC, QS, ZRS, ↓ZDS, h, SS, one_ne2, num_ne2, TIS, MDS, Nat.reduceAdd, Nat.reduceEqDiff, Nat.reduceLT, Nat.reduceLeDiff, Nat.reduceMul, Nat.reduceSub, reduceIte]
    rw [ev_loop]
    refine Eq.trans (loop_list (Q := fun g x => thenEnd E.P [] _ 0 (thenEv E _ _ _ _ _ (outOf 0 x)) = some (.bool g, [])) (s.zip t) eqStep (fun _ => true)
      (fun i _ => { sl := [(0, .sl fl (s.map (Rule.enc fl))), (1, .sl gl (t.map (Rule.enc gl))), (5, .int .i64 (i : Nat))], bx := [], nx := 0, nt := 27 }) (fun _ _ => True) () ?_ ?_ (by simp; omega) trivial ?_) ?_
    · intro b _
      have hz : (s.zip t).length = s.length := by simp; omega
      simp -implicitDefEqProofs only [W2, ↓D2, ↓DC, QX, hz, leaf_some, isNormal, Int.reduceToNat, id_eq, Int.reduceBEq, Int.reduceLE, Int.reduceLT, Nat.reduceAdd, Nat.reduceEqDiff, Nat.reduceLT, Nat.reduceLeDiff, Nat.reduceMul, Nat.reduceSub, reduceIte]
      repeat' (split <;> (rename_i h; (try simp -implicitDefEqProofs only [Bool.not_eq_true', Bool.not_eq_false', decide_eq_true_eq, decide_eq_false_iff_not] at h); (try simp -implicitDefEqProofs only [W2, ↓D2, ↓DC, QX, *, hz, leaf_some, isNormal, Int.reduceToNat, id_eq, Int.reduceBEq, Int.reduceLE, Int.reduceLT, Nat.reduceAdd, Nat.reduceEqDiff, Nat.reduceLT, Nat.reduceLeDiff, Nat.reduceMul, Nat.reduceSub, reduceIte])))
    · intro pre p r b hs' _
      have hx := (zip_at hl hs').1
      have hy := (zip_at hl hs').2.1
      have e1 := (zip_at hl hs').2.2.1
      have hlt := (at_row (s := s) (pre := pre.map Prod.fst) e1 hs).2.2.1
      have hw1 := (at_row (s := s) (pre := pre.map Prod.fst) e1 hs).2.2.2.1
      have hc := (at_row (s := s) (pre := pre.map Prod.fst) e1 hs).2.1
      simp -implicitDefEqProofs only [List.length_map] at hlt hw1
      clear e1 hs'
      have c2 := c1 p.1 hc p.2
      simp -implicitDefEqProofs only [enc_Cond, enc_Rule] at c2
      simp -implicitDefEqProofs only [W2, ↓D2, ↓DC, QX, enc_Cond, enc_Rule, hx, hy, hlt, hw1, c2, eqStep, plan_16_6, keep_16_4, leaf_some, isNormal, Int.reduceToNat, id_eq, Int.reduceBEq, Int.reduceLE, Int.reduceLT, Nat.reduceAdd, Nat.reduceEqDiff, Nat.reduceLT, Nat.reduceLeDiff, Nat.reduceMul, Nat.reduceSub, reduceIte]
      repeat' (split <;> (rename_i h; (try simp -implicitDefEqProofs only [Bool.not_eq_true', Bool.not_eq_false', decide_eq_true_eq, decide_eq_false_iff_not] at h); (try simp -implicitDefEqProofs only [W2, ↓D2, ↓DC, QX, *, enc_Cond, enc_Rule, hx, hy, hlt, hw1, c2, eqStep, plan_16_6, keep_16_4, leaf_some, isNormal, Int.reduceToNat, id_eq, Int.reduceBEq, Int.reduceLE, Int.reduceLT, Nat.reduceAdd, Nat.reduceEqDiff, Nat.reduceLT, Nat.reduceLeDiff, Nat.reduceMul, Nat.reduceSub, reduceIte])))
      all_goals first | done | trivial
    · simp -implicitDefEqProofs only [firstRegion]; rw [keep_16_4]; simp -implicitDefEqProofs only [W2, ↓D2, ↓DC, Int.reduceToNat, id_eq, Int.reduceBEq, Int.reduceLE, Int.reduceLT, Nat.reduceAdd, Nat.reduceEqDiff, Nat.reduceLT, Nat.reduceLeDiff, Nat.reduceMul, Nat.reduceSub, reduceIte]; first | done | rfl
    · rw [eqLoop _ _ _ hl]
theorem r_laws_eqPolicy {fl gl : Bool} (k : Nat) (hk : 290271069732864 + 6 ≤ k) (x y : Policy) (hx : x.w ≤ 1099511627776) : run E noExt k 8 [x.enc fl, y.enc gl] [] = some (.bool (decide (x = y)), []) := by
  obtain ⟨k, rfl⟩ : ∃ j, k = j + 1 := ⟨k - 1, by omega⟩
  rw [run_succ rfl rfl, body_eq (nt := 16) (fn := Go.Proofs.Try.f8) (by kernel_rfl) rfl rfl rfl rfl rfl rfl rfl rfl]
  unfold Policy.w at hx
  have c_rules := r_laws_eqRuleS (fl := fl) (gl := gl) k (by omega) x.rules y.rules (by omega)
  rw [eqb_Policy]
  simp -implicitDefEqProofs only [W1, ↓D1, ↓DC, QX, Go.Proofs.Try.f8, enc_Policy, bne, c_rules, Int.reduceToNat, id_eq, Int.reduceBEq, Int.reduceLE, Int.reduceLT, Nat.reduceAdd, Nat.reduceEqDiff, Nat.reduceLT, Nat.reduceLeDiff, Nat.reduceMul, Nat.reduceSub, reduceIte]
  repeat' (split <;> (rename_i h; (try simp -implicitDefEqProofs only [Bool.not_eq_true', Bool.not_eq_false', decide_eq_true_eq, decide_eq_false_iff_not] at h); (try simp -implicitDefEqProofs only [W1, ↓D1, ↓DC, QX, *, enc_Policy, bne, c_rules, Int.reduceToNat, id_eq, Int.reduceBEq, Int.reduceLE, Int.reduceLT, Nat.reduceAdd, Nat.reduceEqDiff, Nat.reduceLT, Nat.reduceLeDiff, Nat.reduceMul, Nat.reduceSub, reduceIte])))
  all_goals simp -implicitDefEqProofs only [*, Bool.true_and, Bool.false_and, Bool.and_true, Bool.and_false, Bool.false_eq_true, reduceIte]
def inR (n a b : Int) : Bool := decide (a ≤ n) && decide (n ≤ b)
theorem r_spec_l1In (k : Nat) (hk : 281474976710656 + 1 ≤ k) (n a b : Int) : run E noExt k 13 [.int .i64 n, .int .i64 a, .int .i64 b] [] = some (.bool (inR n a b), []) := by
  obtain ⟨k, rfl⟩ : ∃ j, k = j + 1 := ⟨k - 1, by omega⟩
  rw [run_succ rfl rfl, body_eq (nt := 15) (fn := Go.Proofs.Try.f13) (by kernel_rfl) rfl rfl rfl rfl rfl rfl rfl rfl]
  simp -implicitDefEqProofs only [↓DC, QS, ZRS, ↓ZDS, Go.Proofs.Try.f13, SS, one_ne2, num_ne2, TIS, MDS, Nat.reduceAdd, Nat.reduceEqDiff, Nat.reduceLT, Nat.reduceLeDiff, Nat.reduceMul, Nat.reduceSub, reduceIte]
  by_cases h : a ≤ n <;> simp -implicitDefEqProofs only [↓DC, QS, ZRS, ↓ZDS, h, inR, SS, one_ne2, num_ne2, TIS, MDS, Nat.reduceAdd, Nat.reduceEqDiff, Nat.reduceLT, Nat.reduceLeDiff, Nat.reduceMul, Nat.reduceSub, reduceIte]
end Go.Proofs.Ytkolknigffoleaa.Flat
