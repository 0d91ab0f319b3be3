/-
What is handed: counted.
-/
import Derived.Test.YtkadcnfpjppdbaaFlatCF
import Derived.Test.YtkadcnfpjppdbaaEqD
set_option linter.unusedVariables false
set_option linter.unusedSimpArgs false
set_option maxRecDepth 10000
namespace Go.Proofs.Ytkadcnfpjppdbaa.Flat
theorem r_laws_szCondS0 {fl : Bool} (k : Nat) (s : List Cond) (hk : 281474976710656 + 4 * wl Cond.w s + 1 ≤ k) (hf : FitL Cond.fits s) (c1 : ∀ c ∈ s, ∀ m : Int, -1 ≤ m → m ≤ 1048576 → run E noExt (k - 1) 45 [c.enc fl, .int .i64 m] [] = some (.int .i64 (left m c.w), [])) (m : Int) (hm : -1 ≤ m) (hm2 : m ≤ 1048576) :
    run E noExt k 61 [.sl fl (s.map (Cond.enc fl)), .int .i64 m] [] = some (.int .i64 (left m (wl Cond.w s)), []) := by
  obtain ⟨k, rfl⟩ : ∃ j, k = j + 1 := ⟨k - 1, by omega⟩
  rw [run_succ rfl rfl, body_eq (nt := 27) (fn := Go.Proofs.Try.f61) (by kernel_rfl) rfl rfl rfl rfl rfl rfl rfl rfl]
  simp -implicitDefEqProofs only [Nat.add_sub_cancel] at c1
  have hs := hf.1
  have hwl := wl_length Cond.w s
  have hw : IntKind.i64.wrap (m - (s.length : Int)) = m - s.length := IntWalk.i64_in _ (by omega)
  simp -implicitDefEqProofs only [QS, QN, ZRS, ↓ZDS, Go.Proofs.Try.f61, hw, ifEv_bool, SN, evCutRow, Int.reduceToNat, id_eq, Int.reduceBEq, Int.reduceLE, Int.reduceLT, SS, one_ne2, num_ne2, TIS, MDS, AV.cells, AV.isCell, Value.cells, Nat.reduceAdd, Nat.reduceEqDiff, Nat.reduceLT, Nat.reduceLeDiff, Nat.reduceMul, Nat.reduceSub, reduceIte]
  split
  · rename_i h
    have h' : m - (s.length : Int) < 0 := of_decide_eq_true h
    simp -implicitDefEqProofs only [QS, ZRS, ↓ZDS, h, SS, one_ne2, num_ne2, TIS, MDS, AV.cells, AV.isCell, Value.cells, Nat.reduceAdd, Nat.reduceEqDiff, Nat.reduceLT, Nat.reduceLeDiff, Nat.reduceMul, Nat.reduceSub, reduceIte]
    rw [left_gt (by omega)]
  · rename_i h
    simp -implicitDefEqProofs only [QS, ZRS, ↓ZDS, h, SS, one_ne2, num_ne2, TIS, MDS, AV.cells, AV.isCell, Value.cells, Nat.reduceAdd, Nat.reduceEqDiff, Nat.reduceLT, Nat.reduceLeDiff, Nat.reduceMul, Nat.reduceSub, reduceIte]
    have h' : ¬ (m - (s.length : Int) < 0) := of_decide_eq_false h
    rw [ev_loop]
    refine Eq.trans (loop_list (Q := fun g x => thenEnd E.P [] _ 0 (thenEv E _ _ _ _ _ (outOf 0 x)) = some (.int .i64 g, [])) s (szStep Cond.w) id
      (fun i m => { sl := [(0, .sl fl (s.map (Cond.enc fl))), (1, .int .i64 m), (5, .int .i64 (i : Nat))], bx := [], nx := 0, nt := 27 }) (fun i m => 0 ≤ m ∧ m ≤ 1048576) (m - s.length) ?_ ?_ (by omega) ⟨by omega, by omega⟩ ?_) ?_
    · intro m ⟨h1, h2⟩
      simp -implicitDefEqProofs only [QS, QN, QG, ZRS, ↓ZDS, ZRG, ↓ZDG, leaf_some, isNormal, ifEv_bool, gate_bool, gateP_bool, gateQ_bool, pick_bool, SN, evCutRow, Int.reduceToNat, id_eq, Int.reduceBEq, Int.reduceLE, Int.reduceLT, SS, one_ne2, num_ne2, TIS, MDS, AV.cells, AV.isCell, Value.cells, Nat.reduceAdd, Nat.reduceEqDiff, Nat.reduceLT, Nat.reduceLeDiff, Nat.reduceMul, Nat.reduceSub, reduceIte]
      repeat' (split <;> (rename_i h; (try simp -implicitDefEqProofs only [Bool.not_eq_true', Bool.not_eq_false', decide_eq_true_eq, decide_eq_false_iff_not] at h); (try simp -implicitDefEqProofs only [QS, QN, QG, ZRS, ↓ZDS, ZRG, ↓ZDG, *, leaf_some, isNormal, ifEv_bool, gate_bool, gateP_bool, gateQ_bool, pick_bool, SN, evCutRow, Int.reduceToNat, id_eq, Int.reduceBEq, Int.reduceLE, Int.reduceLT, SS, one_ne2, num_ne2, TIS, MDS, AV.cells, AV.isCell, Value.cells, Nat.reduceAdd, Nat.reduceEqDiff, Nat.reduceLT, Nat.reduceLeDiff, Nat.reduceMul, Nat.reduceSub, reduceIte])))
    · intro pre c r m hs' ⟨h1, h2⟩
      have hx := (at_row hs' hs).1; have hc := (at_row hs' hs).2.1; have hlt := (at_row hs' hs).2.2.1; have hw1 := (at_row hs' hs).2.2.2.1; have hl := (at_row hs' hs).2.2.2.2
      have c2 := c1 c hc m (by omega) h2
      simp -implicitDefEqProofs only [enc_Cond] at c2
      clear hs'
      simp -implicitDefEqProofs only [QS, QN, QG, ZRS, ↓ZDS, ZRG, ↓ZDG, enc_Cond, hx, hlt, hw1, c2, szStep, keep_61_5, leaf_some, isNormal, ifEv_bool, gate_bool, gateP_bool, gateQ_bool, pick_bool, SN, evCutRow, Int.reduceToNat, id_eq, Int.reduceBEq, Int.reduceLE, Int.reduceLT, SS, one_ne2, num_ne2, TIS, MDS, AV.cells, AV.isCell, Value.cells, Nat.reduceAdd, Nat.reduceEqDiff, Nat.reduceLT, Nat.reduceLeDiff, Nat.reduceMul, Nat.reduceSub, reduceIte]
      repeat' (split <;> (rename_i h; (try simp -implicitDefEqProofs only [Bool.not_eq_true', Bool.not_eq_false', decide_eq_true_eq, decide_eq_false_iff_not] at h); (try simp -implicitDefEqProofs only [QS, QN, QG, ZRS, ↓ZDS, ZRG, ↓ZDG, *, enc_Cond, hx, hlt, hw1, c2, szStep, keep_61_5, leaf_some, isNormal, ifEv_bool, gate_bool, gateP_bool, gateQ_bool, pick_bool, SN, evCutRow, Int.reduceToNat, id_eq, Int.reduceBEq, Int.reduceLE, Int.reduceLT, SS, one_ne2, num_ne2, TIS, MDS, AV.cells, AV.isCell, Value.cells, Nat.reduceAdd, Nat.reduceEqDiff, Nat.reduceLT, Nat.reduceLeDiff, Nat.reduceMul, Nat.reduceSub, reduceIte])))
      exact ⟨by omega, left_hi h2 (by omega)⟩
    · simp -implicitDefEqProofs only [firstRegion]; rw [keep_61_5]; simp -implicitDefEqProofs only [QS, QN, QG, ZRS, ↓ZDS, ZRG, ↓ZDG, SN, evCutRow, Int.reduceToNat, id_eq, Int.reduceBEq, Int.reduceLE, Int.reduceLT, SS, one_ne2, num_ne2, TIS, MDS, AV.cells, AV.isCell, Value.cells, Nat.reduceAdd, Nat.reduceEqDiff, Nat.reduceLT, Nat.reduceLeDiff, Nat.reduceMul, Nat.reduceSub, reduceIte]; first | done | rfl
    · rw [szLoop _ _ _ _ (by omega)]
      by_cases h2 : ((wl Cond.w s : Nat) : Int) ≤ m
      · rw [left_le h2, left_le (by omega)]; congr 3; omega
      · rw [left_gt (by omega), left_gt (by omega)]
theorem r_laws_szCond {fl : Bool} (k : Nat) (x : Cond) (hk : 281474976710656 + 4 * x.w + 2 ≤ k) (hf : x.fits) (m : Int) (hm : -1 ≤ m) (hm2 : m ≤ 1048576) :
    run E noExt k 45 [x.enc fl, .int .i64 m] [] = some (.int .i64 (left m x.w), []) := by
  induction x using Cond.induct generalizing k m with
  | h x ih =>
    rw [Cond.fits_eq] at hf
    rw [x.w_eq] at hk ⊢
    have c2 := r_laws_szCondS0 (fl := fl) (k - 1) x.args (by omega) hf (fun c hc m h1 h2 => ih c hc _ (by have := wl_mem (w := Cond.w) hc; omega) (hf.2 c hc) m h1 h2) m hm hm2
    have hlo := left_lo (m := wl Cond.w x.args) hm
    obtain ⟨k, rfl⟩ : ∃ j, k = j + 1 := ⟨k - 1, by omega⟩
    rw [run_succ rfl rfl, body_eq (nt := 12) (fn := Go.Proofs.Try.f45) (by kernel_rfl) rfl rfl rfl rfl rfl rfl rfl rfl]
    simp -implicitDefEqProofs only [Nat.add_sub_cancel] at c2
    rw [enc_Cond]
    simp -implicitDefEqProofs only [QS, QN, ZRS, ↓ZDS, Go.Proofs.Try.f45, c2, ifEv_bool, SN, evCutRow, Int.reduceToNat, id_eq, Int.reduceBEq, Int.reduceLE, Int.reduceLT, SS, one_ne2, num_ne2, TIS, MDS, AV.cells, AV.isCell, Value.cells, Nat.reduceAdd, Nat.reduceEqDiff, Nat.reduceLT, Nat.reduceLeDiff, Nat.reduceMul, Nat.reduceSub, reduceIte]
    split
    · rename_i h
      have h' := of_decide_eq_true h
      simp -implicitDefEqProofs only [QS, ZRS, ↓ZDS, h, SS, one_ne2, num_ne2, TIS, MDS, AV.cells, AV.isCell, Value.cells, Nat.reduceAdd, Nat.reduceEqDiff, Nat.reduceLT, Nat.reduceLeDiff, Nat.reduceMul, Nat.reduceSub, reduceIte]
      have : left m (wl Cond.w x.args) = -1 := by omega
      rw [this]
    · rename_i h
      simp -implicitDefEqProofs only [QS, ZRS, ↓ZDS, h, SS, one_ne2, num_ne2, TIS, MDS, AV.cells, AV.isCell, Value.cells, Nat.reduceAdd, Nat.reduceEqDiff, Nat.reduceLT, Nat.reduceLeDiff, Nat.reduceMul, Nat.reduceSub, reduceIte]
theorem r_laws_szRule {fl : Bool} (k : Nat) (x : Rule) (hk : 281474976710656 + 4 * x.w + 3 ≤ k) (hf : x.fits) (m : Int) (hm : -1 ≤ m) (hm2 : m ≤ 1048576) :
    run E noExt k 27 [x.enc fl, .int .i64 m] [] = some (.int .i64 (left m x.w), []) := by
  obtain ⟨k, rfl⟩ : ∃ j, k = j + 1 := ⟨k - 1, by omega⟩
  rw [run_succ rfl rfl, body_eq (nt := 12) (fn := Go.Proofs.Try.f27) (by kernel_rfl) rfl rfl rfl rfl rfl rfl rfl rfl]
  unfold Rule.w at hk ⊢
  unfold Rule.fits at hf
  have c0 := r_laws_szCond (fl := fl) k x.cond (by omega) (hf) (m) (hm) (hm2)
  simp -implicitDefEqProofs only [enc_Cond, enc_Rule] at c0
  simp -implicitDefEqProofs only [QS, QN, ZRS, ↓ZDS, enc_Rule, Go.Proofs.Try.f27, c0, ifEv_bool, SN, evCutRow, Int.reduceToNat, id_eq, Int.reduceBEq, Int.reduceLE, Int.reduceLT, SS, one_ne2, num_ne2, TIS, MDS, AV.cells, AV.isCell, Value.cells, Nat.reduceAdd, Nat.reduceEqDiff, Nat.reduceLT, Nat.reduceLeDiff, Nat.reduceMul, Nat.reduceSub, reduceIte]
  split
  · rename_i h
    have h' := of_decide_eq_true h
    simp -implicitDefEqProofs only [QS, ZRS, ↓ZDS, h, SS, one_ne2, num_ne2, TIS, MDS, AV.cells, AV.isCell, Value.cells, Nat.reduceAdd, Nat.reduceEqDiff, Nat.reduceLT, Nat.reduceLeDiff, Nat.reduceMul, Nat.reduceSub, reduceIte]
    have hlo := left_lo (m := 0) hm
    congr 3
    unfold left at h' ⊢
    split at h' <;> split <;> omega
  · rename_i h
    simp -implicitDefEqProofs only [QS, QN, ZRS, ↓ZDS, h, c0, ifEv_bool, SN, evCutRow, Int.reduceToNat, id_eq, Int.reduceBEq, Int.reduceLE, Int.reduceLT, SS, one_ne2, num_ne2, TIS, MDS, AV.cells, AV.isCell, Value.cells, Nat.reduceAdd, Nat.reduceEqDiff, Nat.reduceLT, Nat.reduceLeDiff, Nat.reduceMul, Nat.reduceSub, reduceIte]
    try simp -implicitDefEqProofs only [left_left hm, Nat.add_assoc]
theorem r_laws_szRuleS {fl : Bool} (k : Nat) (s : List Rule) (hk : 281474976710656 + 4 * wl Rule.w s + 4 ≤ k) (hf : FitL Rule.fits s) (m : Int) (hm : -1 ≤ m) (hm2 : m ≤ 1048576) :
    run E noExt k 14 [.sl fl (s.map (Rule.enc fl)), .int .i64 m] [] = some (.int .i64 (left m (wl Rule.w s)), []) := by
  obtain ⟨k, rfl⟩ : ∃ j, k = j + 1 := ⟨k - 1, by omega⟩
  rw [run_succ rfl rfl, body_eq (nt := 27) (fn := Go.Proofs.Try.f14) (by kernel_rfl) rfl rfl rfl rfl rfl rfl rfl rfl]
  have hs : s.length ≤ 140737488355328 := hf.1
  have hwl := wl_length Rule.w s
  have c1 : ∀ c ∈ s, ∀ m : Int, -1 ≤ m → m ≤ 1048576 → run E noExt k 27 [c.enc fl, .int .i64 m] [] = some (.int .i64 (left m c.w), []) := fun c hc => r_laws_szRule k c (by have := wl_mem (w := Rule.w) hc; omega) (hf.2 c hc)
  have hw : IntKind.i64.wrap (m - (s.length : Int)) = m - s.length := IntWalk.i64_in _ (by omega)
  simp -implicitDefEqProofs only [QS, QN, ZRS, ↓ZDS, Go.Proofs.Try.f14, hw, ifEv_bool, SN, evCutRow, Int.reduceToNat, id_eq, Int.reduceBEq, Int.reduceLE, Int.reduceLT, SS, one_ne2, num_ne2, TIS, MDS, AV.cells, AV.isCell, Value.cells, Nat.reduceAdd, Nat.reduceEqDiff, Nat.reduceLT, Nat.reduceLeDiff, Nat.reduceMul, Nat.reduceSub, reduceIte]
  split
  · rename_i h
    have h' : m - (s.length : Int) < 0 := of_decide_eq_true h
    simp -implicitDefEqProofs only [QS, ZRS, ↓ZDS, h, SS, one_ne2, num_ne2, TIS, MDS, AV.cells, AV.isCell, Value.cells, Nat.reduceAdd, Nat.reduceEqDiff, Nat.reduceLT, Nat.reduceLeDiff, Nat.reduceMul, Nat.reduceSub, reduceIte]
    rw [left_gt (by omega)]
  · rename_i h
    simp -implicitDefEqProofs only [QS, ZRS, ↓ZDS, h, SS, one_ne2, num_ne2, TIS, MDS, AV.cells, AV.isCell, Value.cells, Nat.reduceAdd, Nat.reduceEqDiff, Nat.reduceLT, Nat.reduceLeDiff, Nat.reduceMul, Nat.reduceSub, reduceIte]
    have h' : ¬ (m - (s.length : Int) < 0) := of_decide_eq_false h
    rw [ev_loop]
    refine Eq.trans (loop_list (Q := fun g x => thenEnd E.P [] _ 0 (thenEv E _ _ _ _ _ (outOf 0 x)) = some (.int .i64 g, [])) s (szStep Rule.w) id
      (fun i m => { sl := [(0, .sl fl (s.map (Rule.enc fl))), (1, .int .i64 m), (5, .int .i64 (i : Nat))], bx := [], nx := 0, nt := 27 }) (fun i m => 0 ≤ m ∧ m ≤ 1048576) (m - s.length) ?_ ?_ (by omega) ⟨by omega, by omega⟩ ?_) ?_
    · intro m ⟨h1, h2⟩
      simp -implicitDefEqProofs only [QS, QN, QG, ZRS, ↓ZDS, ZRG, ↓ZDG, leaf_some, isNormal, ifEv_bool, gate_bool, gateP_bool, gateQ_bool, pick_bool, SN, evCutRow, Int.reduceToNat, id_eq, Int.reduceBEq, Int.reduceLE, Int.reduceLT, SS, one_ne2, num_ne2, TIS, MDS, AV.cells, AV.isCell, Value.cells, Nat.reduceAdd, Nat.reduceEqDiff, Nat.reduceLT, Nat.reduceLeDiff, Nat.reduceMul, Nat.reduceSub, reduceIte]
      repeat' (split <;> (rename_i h; (try simp -implicitDefEqProofs only [Bool.not_eq_true', Bool.not_eq_false', decide_eq_true_eq, decide_eq_false_iff_not] at h); (try simp -implicitDefEqProofs only [QS, QN, QG, ZRS, ↓ZDS, ZRG, ↓ZDG, *, leaf_some, isNormal, ifEv_bool, gate_bool, gateP_bool, gateQ_bool, pick_bool, SN, evCutRow, Int.reduceToNat, id_eq, Int.reduceBEq, Int.reduceLE, Int.reduceLT, SS, one_ne2, num_ne2, TIS, MDS, AV.cells, AV.isCell, Value.cells, Nat.reduceAdd, Nat.reduceEqDiff, Nat.reduceLT, Nat.reduceLeDiff, Nat.reduceMul, Nat.reduceSub, reduceIte])))
    · intro pre c r m hs' ⟨h1, h2⟩
      have hx := (at_row hs' hs).1; have hc := (at_row hs' hs).2.1; have hlt := (at_row hs' hs).2.2.1; have hw1 := (at_row hs' hs).2.2.2.1; have hl := (at_row hs' hs).2.2.2.2
      have c2 := c1 c hc m (by omega) h2
      simp -implicitDefEqProofs only [enc_Cond, enc_Rule] at c2
      clear hs'
      simp -implicitDefEqProofs only [QS, QN, QG, ZRS, ↓ZDS, ZRG, ↓ZDG, enc_Cond, enc_Rule, hx, hlt, hw1, c2, szStep, keep_14_5, leaf_some, isNormal, ifEv_bool, gate_bool, gateP_bool, gateQ_bool, pick_bool, SN, evCutRow, Int.reduceToNat, id_eq, Int.reduceBEq, Int.reduceLE, Int.reduceLT, SS, one_ne2, num_ne2, TIS, MDS, AV.cells, AV.isCell, Value.cells, Nat.reduceAdd, Nat.reduceEqDiff, Nat.reduceLT, Nat.reduceLeDiff, Nat.reduceMul, Nat.reduceSub, reduceIte]
      repeat' (split <;> (rename_i h; (try simp -implicitDefEqProofs only [Bool.not_eq_true', Bool.not_eq_false', decide_eq_true_eq, decide_eq_false_iff_not] at h); (try simp -implicitDefEqProofs only [QS, QN, QG, ZRS, ↓ZDS, ZRG, ↓ZDG, *, enc_Cond, enc_Rule, hx, hlt, hw1, c2, szStep, keep_14_5, leaf_some, isNormal, ifEv_bool, gate_bool, gateP_bool, gateQ_bool, pick_bool, SN, evCutRow, Int.reduceToNat, id_eq, Int.reduceBEq, Int.reduceLE, Int.reduceLT, SS, one_ne2, num_ne2, TIS, MDS, AV.cells, AV.isCell, Value.cells, Nat.reduceAdd, Nat.reduceEqDiff, Nat.reduceLT, Nat.reduceLeDiff, Nat.reduceMul, Nat.reduceSub, reduceIte])))
      exact ⟨by omega, left_hi h2 (by omega)⟩
    · simp -implicitDefEqProofs only [firstRegion]; rw [keep_14_5]; simp -implicitDefEqProofs only [QS, QN, QG, ZRS, ↓ZDS, ZRG, ↓ZDG, SN, evCutRow, Int.reduceToNat, id_eq, Int.reduceBEq, Int.reduceLE, Int.reduceLT, SS, one_ne2, num_ne2, TIS, MDS, AV.cells, AV.isCell, Value.cells, Nat.reduceAdd, Nat.reduceEqDiff, Nat.reduceLT, Nat.reduceLeDiff, Nat.reduceMul, Nat.reduceSub, reduceIte]; first | done | rfl
    · rw [szLoop _ _ _ _ (by omega)]
      by_cases h2 : ((wl Rule.w s : Nat) : Int) ≤ m
      · rw [left_le h2, left_le (by omega)]; congr 3; omega
      · rw [left_gt (by omega), left_gt (by omega)]
theorem r_laws_szPolicy {fl : Bool} (k : Nat) (x : Policy) (hk : 281474976710656 + 4 * x.w + 5 ≤ k) (hf : x.fits) (m : Int) (hm : -1 ≤ m) (hm2 : m ≤ 1048576) :
    run E noExt k 5 [x.enc fl, .int .i64 m] [] = some (.int .i64 (left m x.w), []) := by
  obtain ⟨k, rfl⟩ : ∃ j, k = j + 1 := ⟨k - 1, by omega⟩
  rw [run_succ rfl rfl, body_eq (nt := 12) (fn := Go.Proofs.Try.f5) (by kernel_rfl) rfl rfl rfl rfl rfl rfl rfl rfl]
  unfold Policy.w at hk ⊢
  unfold Policy.fits at hf
  have c0 := r_laws_szRuleS (fl := fl) k x.rules (by omega) (hf) (m) (hm) (hm2)
  simp -implicitDefEqProofs only [QS, QN, ZRS, ↓ZDS, enc_Policy, Go.Proofs.Try.f5, c0, ifEv_bool, SN, evCutRow, Int.reduceToNat, id_eq, Int.reduceBEq, Int.reduceLE, Int.reduceLT, SS, one_ne2, num_ne2, TIS, MDS, AV.cells, AV.isCell, Value.cells, Nat.reduceAdd, Nat.reduceEqDiff, Nat.reduceLT, Nat.reduceLeDiff, Nat.reduceMul, Nat.reduceSub, reduceIte]
  split
  · rename_i h
    have h' := of_decide_eq_true h
    simp -implicitDefEqProofs only [QS, ZRS, ↓ZDS, h, SS, one_ne2, num_ne2, TIS, MDS, AV.cells, AV.isCell, Value.cells, Nat.reduceAdd, Nat.reduceEqDiff, Nat.reduceLT, Nat.reduceLeDiff, Nat.reduceMul, Nat.reduceSub, reduceIte]
    have hlo := left_lo (m := 0) hm
    congr 3
    unfold left at h' ⊢
    split at h' <;> split <;> omega
  · rename_i h
    simp -implicitDefEqProofs only [QS, QN, ZRS, ↓ZDS, h, c0, ifEv_bool, SN, evCutRow, Int.reduceToNat, id_eq, Int.reduceBEq, Int.reduceLE, Int.reduceLT, SS, one_ne2, num_ne2, TIS, MDS, AV.cells, AV.isCell, Value.cells, Nat.reduceAdd, Nat.reduceEqDiff, Nat.reduceLT, Nat.reduceLeDiff, Nat.reduceMul, Nat.reduceSub, reduceIte]
    try simp -implicitDefEqProofs only [left_left hm, Nat.add_assoc]
end Go.Proofs.Ytkadcnfpjppdbaa.Flat
namespace Go.Proofs.Ytkadcnfpjppdbaa.Flat
theorem r_laws_toCondS0 {fl : Bool} (k : Nat) (s : List Cond) (hk : 281474976710656 + 4 * wl Cond.w s + 1 ≤ k) (hs0 : wl Cond.w s ≤ 1099511627776) (c1 : ∀ c ∈ s, run E noExt (k - 1) 46 [c.enc fl] [] = some (c.encO, [])) : run E noExt k 62 [.sl fl (s.map (Cond.enc fl))] [] = some (.own 0 false 42 4 (s.map (Cond.enc true)), []) := by
  obtain ⟨k, rfl⟩ : ∃ j, k = j + 1 := ⟨k - 1, by omega⟩
  rw [run_succ rfl rfl, body_eq (nt := 23) (fn := Go.Proofs.Try.f62) (by kernel_rfl) rfl rfl rfl rfl rfl rfl rfl rfl]
  simp -implicitDefEqProofs only [Nat.add_sub_cancel] at c1
  have hs1 : s.length ≤ 1099511627776 := Nat.le_trans (wl_length _ s) hs0
  have hs : s.length ≤ 140737488355328 := by omega
  simp -implicitDefEqProofs only [QS, QN, ZRS, ↓ZDS, Go.Proofs.Try.f62, ifEv_bool, SN, evCutRow, Int.reduceToNat, id_eq, Int.reduceBEq, Int.reduceLE, Int.reduceLT, SS, one_ne2, num_ne2, TIS, MDS, AV.cells, AV.isCell, Value.cells, Nat.reduceAdd, Nat.reduceEqDiff, Nat.reduceLT, Nat.reduceLeDiff, Nat.reduceMul, Nat.reduceSub, reduceIte]
  rw [makeSlice_own (n := s.length) (ti := _) (te := _) sl40 ti40 ti42 (by rfl) (by dsimp only; omega) (by omega) (by decide)]
  simp -implicitDefEqProofs only [QS, QN, ZRS, ↓ZDS, SN, evCutRow, Int.reduceToNat, id_eq, Int.reduceBEq, Int.reduceLE, Int.reduceLT, SS, one_ne2, num_ne2, TIS, MDS, AV.cells, AV.isCell, Value.cells, Nat.reduceAdd, Nat.reduceEqDiff, Nat.reduceLT, Nat.reduceLeDiff, Nat.reduceMul, Nat.reduceSub, reduceIte]
  rw [ev_loop]
  refine Eq.trans (loop_list (Q := fun g x => thenEnd E.P [] _ 0 (thenEv E _ _ _ _ _ (outOf 0 x)) = some (.own 0 false 42 4 g, [])) s (toStep (Cond.enc true)) id
    (fun i b => { sl := [(0, .sl fl (s.map (Cond.enc fl))), (3, .own 0 false 42 4 b), (4, .int .i64 (i : Nat))], bx := [], nx := 1, nt := 23 }) (fun i b => b.length = s.length ∧ (∀ y ∈ b, ∃ cs, y = .agg cs ∧ cs.length = 4)) (List.replicate s.length (.agg [.int .i64 0, .int .i64 0, .int .i64 0, .sl true []])) ?_ ?_ (by omega) ⟨by simp, ?_⟩ ?_) ?_
  · intro b ⟨h1, h2⟩
    simp -implicitDefEqProofs only [QS, QN, QG, QO, ZRS, ↓ZDS, ZRG, ↓ZDG, ZRO, ↓ZDO, SO, SH, evAppend, rowOf, noref, isRef, isPtr, noPtr, isBad, AV.isUndef, leaf_some, isNormal, ifEv_bool, gate_bool, gateP_bool, gateQ_bool, pick_bool, SN, evCutRow, Int.reduceToNat, id_eq, Int.reduceBEq, Int.reduceLE, Int.reduceLT, SS, one_ne2, num_ne2, TIS, MDS, AV.cells, AV.isCell, Value.cells, Nat.reduceAdd, Nat.reduceEqDiff, Nat.reduceLT, Nat.reduceLeDiff, Nat.reduceMul, Nat.reduceSub, reduceIte]
    repeat' (split <;> (rename_i h; (try simp -implicitDefEqProofs only [Bool.not_eq_true', Bool.not_eq_false', decide_eq_true_eq, decide_eq_false_iff_not] at h); (try simp -implicitDefEqProofs only [QS, QN, QG, QO, ZRS, ↓ZDS, ZRG, ↓ZDG, ZRO, ↓ZDO, *, SO, SH, evAppend, rowOf, noref, isRef, isPtr, noPtr, isBad, AV.isUndef, leaf_some, isNormal, ifEv_bool, gate_bool, gateP_bool, gateQ_bool, pick_bool, SN, evCutRow, Int.reduceToNat, id_eq, Int.reduceBEq, Int.reduceLE, Int.reduceLT, SS, one_ne2, num_ne2, TIS, MDS, AV.cells, AV.isCell, Value.cells, Nat.reduceAdd, Nat.reduceEqDiff, Nat.reduceLT, Nat.reduceLeDiff, Nat.reduceMul, Nat.reduceSub, reduceIte])))
    all_goals first | trivial | (refine ⟨trivial, ?_⟩; rfl)
  · intro pre c r b hs' ⟨h1, h2⟩
    have hx := (at_row hs' hs).1; have hc := (at_row hs' hs).2.1; have hlt := (at_row hs' hs).2.2.1; have hw1 := (at_row hs' hs).2.2.2.1; have hl := (at_row hs' hs).2.2.2.2
    have hl1 : pre.length < b.length := by omega
    have hl2 : ((pre.length : Nat) : Int) < ((b.length : Nat) : Int) := by omega
    have c2 := c1 c hc
    simp -implicitDefEqProofs only [enc_Cond, Cond.encO] at c2
    obtain ⟨y, hy⟩ : ∃ y, b[pre.length]? = some y := ⟨_, List.getElem?_eq_getElem hl1⟩
    obtain ⟨cs, rfl, hcs⟩ := h2 y (List.mem_of_getElem? hy)
    have hset : ∀ y ∈ b.set pre.length (Cond.enc true c), ∃ cs, y = .agg cs ∧ cs.length = 4 := by
      intro y hy
      rcases List.mem_or_eq_of_mem_set hy with hy | rfl
      · exact h2 y hy
      · exact ⟨_, enc_Cond, rfl⟩
    clear hs'
    simp -implicitDefEqProofs only [QS, QN, QG, QO, ZRS, ↓ZDS, ZRG, ↓ZDG, ZRO, ↓ZDO, enc_Cond, c2, hx, hlt, hl2, hw1, hy, hcs, (List.drop_of_length_le (Nat.le_of_eq hcs)), toStep, SO, SH, evAppend, rowOf, noref, isRef, isPtr, noPtr, isBad, AV.isUndef, keep_62_3, leaf_some, isNormal, ifEv_bool, gate_bool, gateP_bool, gateQ_bool, pick_bool, SN, evCutRow, Int.reduceToNat, id_eq, Int.reduceBEq, Int.reduceLE, Int.reduceLT, SS, one_ne2, num_ne2, TIS, MDS, AV.cells, AV.isCell, Value.cells, Nat.reduceAdd, Nat.reduceEqDiff, Nat.reduceLT, Nat.reduceLeDiff, Nat.reduceMul, Nat.reduceSub, reduceIte]
    repeat' (split <;> (rename_i h; (try simp -implicitDefEqProofs only [Bool.not_eq_true', Bool.not_eq_false', decide_eq_true_eq, decide_eq_false_iff_not] at h); (try simp -implicitDefEqProofs only [QS, QN, QG, QO, ZRS, ↓ZDS, ZRG, ↓ZDG, ZRO, ↓ZDO, *, enc_Cond, c2, hx, hlt, hl2, hw1, hy, hcs, (List.drop_of_length_le (Nat.le_of_eq hcs)), toStep, SO, SH, evAppend, rowOf, noref, isRef, isPtr, noPtr, isBad, AV.isUndef, keep_62_3, leaf_some, isNormal, ifEv_bool, gate_bool, gateP_bool, gateQ_bool, pick_bool, SN, evCutRow, Int.reduceToNat, id_eq, Int.reduceBEq, Int.reduceLE, Int.reduceLT, SS, one_ne2, num_ne2, TIS, MDS, AV.cells, AV.isCell, Value.cells, Nat.reduceAdd, Nat.reduceEqDiff, Nat.reduceLT, Nat.reduceLeDiff, Nat.reduceMul, Nat.reduceSub, reduceIte])))
    simp -implicitDefEqProofs only [enc_Cond] at hset
    exact ⟨by rw [List.length_set, h1], hset⟩
  · intro y hy
    rw [List.mem_replicate] at hy
    exact ⟨_, hy.2, rfl⟩
  · simp -implicitDefEqProofs only [firstRegion]; rw [keep_62_3]; simp -implicitDefEqProofs only [QS, QN, QG, ZRS, ↓ZDS, ZRG, ↓ZDG, SN, evCutRow, Int.reduceToNat, id_eq, Int.reduceBEq, Int.reduceLE, Int.reduceLT, SS, one_ne2, num_ne2, TIS, MDS, AV.cells, AV.isCell, Value.cells, Nat.reduceAdd, Nat.reduceEqDiff, Nat.reduceLT, Nat.reduceLeDiff, Nat.reduceMul, Nat.reduceSub, reduceIte]; first | done | rfl
  · rw [toLoop _ _ _ _ (by simp)]
    simp
theorem r_laws_toCond0 {fl : Bool} (x : Cond) : ∀ (k : Nat), 281474976710656 + 4 * x.w + 2 ≤ k → x.w ≤ 1099511627776 → run E noExt k 46 [x.enc fl] [] = some (x.encO, []) := by
  induction x using Cond.induct with
  | h x ih =>
    intro k hk hx
    rw [x.w_eq] at hk hx
    have c2 := r_laws_toCondS0 (fl := fl) (k - 1) x.args (by omega) hx (fun c hc => ih c hc _ (by have := wl_mem (w := Cond.w) hc; omega) (by have := wl_mem (w := Cond.w) hc; omega))
    obtain ⟨k, rfl⟩ : ∃ j, k = j + 1 := ⟨k - 1, by omega⟩
    rw [run_succ rfl rfl, body_eq (nt := 18) (fn := Go.Proofs.Try.f46) (by kernel_rfl) rfl rfl rfl rfl rfl rfl rfl rfl]
    simp -implicitDefEqProofs only [Nat.add_sub_cancel] at c2
    simp -implicitDefEqProofs only [QS, QN, QG, QO, ZRS, ↓ZDS, ZRG, ↓ZDG, ZRO, ↓ZDO, enc_Cond, Go.Proofs.Try.f46, c2, SO, SH, evAppend, rowOf, noref, isRef, isPtr, noPtr, isBad, AV.isUndef, SN, evCutRow, Int.reduceToNat, id_eq, Int.reduceBEq, Int.reduceLE, Int.reduceLT, SS, one_ne2, num_ne2, TIS, MDS, AV.cells, AV.isCell, Value.cells, Nat.reduceAdd, Nat.reduceEqDiff, Nat.reduceLT, Nat.reduceLeDiff, Nat.reduceMul, Nat.reduceSub, reduceIte]
    rfl
theorem r_laws_toCond {fl : Bool} (k : Nat) (hk : 290271069732864 + 2 ≤ k) (x : Cond) (hx : x.w ≤ 1099511627776) : run E noExt k 46 [x.enc fl] [] = some (x.encO, []) := r_laws_toCond0 x k (by omega) hx
theorem r_laws_toRule {fl : Bool} (k : Nat) (hk : 290271069732864 + 4 ≤ k) (x : Rule) (hx : x.w ≤ 1099511627776) : run E noExt k 29 [x.enc fl] [] = some (x.encO, []) := by
  obtain ⟨k, rfl⟩ : ∃ j, k = j + 1 := ⟨k - 1, by omega⟩
  rw [run_succ rfl rfl, body_eq (nt := 18) (fn := Go.Proofs.Try.f29) (by kernel_rfl) rfl rfl rfl rfl rfl rfl rfl rfl]
  unfold Rule.w at hx
  have c_cond := r_laws_toCond (fl := fl) k (by omega) x.cond (by omega)
  simp -implicitDefEqProofs only [enc_Cond, enc_Rule, Cond.encO] at c_cond
  simp -implicitDefEqProofs only [QS, QG, QO, ZRS, ↓ZDS, ZRG, ↓ZDG, ZRO, ↓ZDO, enc_Rule, Go.Proofs.Try.f29, c_cond, SO, SH, evAppend, rowOf, noref, isRef, isPtr, noPtr, isBad, AV.isUndef, SS, one_ne2, num_ne2, TIS, MDS, AV.cells, AV.isCell, Value.cells, Nat.reduceAdd, Nat.reduceEqDiff, Nat.reduceLT, Nat.reduceLeDiff, Nat.reduceMul, Nat.reduceSub, reduceIte]
  rfl
theorem r_laws_toRuleS {fl : Bool} (k : Nat) (hk : 290271069732864 + 5 ≤ k) (s : List Rule) (hs0 : wl Rule.w s ≤ 1099511627776) : run E noExt k 17 [.sl fl (s.map (Rule.enc fl))] [] = some (.own 0 false 44 7 (s.map (Rule.enc true)), []) := by
  obtain ⟨k, rfl⟩ : ∃ j, k = j + 1 := ⟨k - 1, by omega⟩
  rw [run_succ rfl rfl, body_eq (nt := 23) (fn := Go.Proofs.Try.f17) (by kernel_rfl) rfl rfl rfl rfl rfl rfl rfl rfl]
  have hs1 : s.length ≤ 1099511627776 := Nat.le_trans (wl_length _ s) hs0
  have c1 : ∀ c ∈ s, run E noExt k 29 [c.enc fl] [] = some (c.encO, []) := fun c hc => r_laws_toRule k (by omega) c (by have := wl_mem (w := Rule.w) hc; omega)
  have hs : s.length ≤ 140737488355328 := by omega
  simp -implicitDefEqProofs only [QS, QN, ZRS, ↓ZDS, Go.Proofs.Try.f17, ifEv_bool, SN, evCutRow, Int.reduceToNat, id_eq, Int.reduceBEq, Int.reduceLE, Int.reduceLT, SS, one_ne2, num_ne2, TIS, MDS, AV.cells, AV.isCell, Value.cells, Nat.reduceAdd, Nat.reduceEqDiff, Nat.reduceLT, Nat.reduceLeDiff, Nat.reduceMul, Nat.reduceSub, reduceIte]
  rw [makeSlice_own (n := s.length) (ti := _) (te := _) sl26 ti26 ti44 (by rfl) (by dsimp only; omega) (by omega) (by decide)]
  simp -implicitDefEqProofs only [QS, QN, ZRS, ↓ZDS, SN, evCutRow, Int.reduceToNat, id_eq, Int.reduceBEq, Int.reduceLE, Int.reduceLT, SS, one_ne2, num_ne2, TIS, MDS, AV.cells, AV.isCell, Value.cells, Nat.reduceAdd, Nat.reduceEqDiff, Nat.reduceLT, Nat.reduceLeDiff, Nat.reduceMul, Nat.reduceSub, reduceIte]
  rw [ev_loop]
  refine Eq.trans (loop_list (Q := fun g x => thenEnd E.P [] _ 0 (thenEv E _ _ _ _ _ (outOf 0 x)) = some (.own 0 false 44 7 g, [])) s (toStep (Rule.enc true)) id
    (fun i b => { sl := [(0, .sl fl (s.map (Rule.enc fl))), (3, .own 0 false 44 7 b), (4, .int .i64 (i : Nat))], bx := [], nx := 1, nt := 23 }) (fun i b => b.length = s.length ∧ (∀ y ∈ b, ∃ cs, y = .agg cs ∧ cs.length = 7)) (List.replicate s.length (.agg [.int .i64 0, .int .i64 0, .int .i64 0, .int .i64 0, .int .i64 0, .int .i64 0, .sl true []])) ?_ ?_ (by omega) ⟨by simp, ?_⟩ ?_) ?_
  · intro b ⟨h1, h2⟩
    simp -implicitDefEqProofs only [QS, QN, QG, QO, ZRS, ↓ZDS, ZRG, ↓ZDG, ZRO, ↓ZDO, SO, SH, evAppend, rowOf, noref, isRef, isPtr, noPtr, isBad, AV.isUndef, leaf_some, isNormal, ifEv_bool, gate_bool, gateP_bool, gateQ_bool, pick_bool, SN, evCutRow, Int.reduceToNat, id_eq, Int.reduceBEq, Int.reduceLE, Int.reduceLT, SS, one_ne2, num_ne2, TIS, MDS, AV.cells, AV.isCell, Value.cells, Nat.reduceAdd, Nat.reduceEqDiff, Nat.reduceLT, Nat.reduceLeDiff, Nat.reduceMul, Nat.reduceSub, reduceIte]
    repeat' (split <;> (rename_i h; (try simp -implicitDefEqProofs only [Bool.not_eq_true', Bool.not_eq_false', decide_eq_true_eq, decide_eq_false_iff_not] at h); (try simp -implicitDefEqProofs only [QS, QN, QG, QO, ZRS, ↓ZDS, ZRG, ↓ZDG, ZRO, ↓ZDO, *, SO, SH, evAppend, rowOf, noref, isRef, isPtr, noPtr, isBad, AV.isUndef, leaf_some, isNormal, ifEv_bool, gate_bool, gateP_bool, gateQ_bool, pick_bool, SN, evCutRow, Int.reduceToNat, id_eq, Int.reduceBEq, Int.reduceLE, Int.reduceLT, SS, one_ne2, num_ne2, TIS, MDS, AV.cells, AV.isCell, Value.cells, Nat.reduceAdd, Nat.reduceEqDiff, Nat.reduceLT, Nat.reduceLeDiff, Nat.reduceMul, Nat.reduceSub, reduceIte])))
    all_goals first | trivial | (refine ⟨trivial, ?_⟩; rfl)
  · intro pre c r b hs' ⟨h1, h2⟩
    have hx := (at_row hs' hs).1; have hc := (at_row hs' hs).2.1; have hlt := (at_row hs' hs).2.2.1; have hw1 := (at_row hs' hs).2.2.2.1; have hl := (at_row hs' hs).2.2.2.2
    have hl1 : pre.length < b.length := by omega
    have hl2 : ((pre.length : Nat) : Int) < ((b.length : Nat) : Int) := by omega
    have c2 := c1 c hc
    simp -implicitDefEqProofs only [enc_Cond, enc_Rule, Rule.encO] at c2
    obtain ⟨y, hy⟩ : ∃ y, b[pre.length]? = some y := ⟨_, List.getElem?_eq_getElem hl1⟩
    obtain ⟨cs, rfl, hcs⟩ := h2 y (List.mem_of_getElem? hy)
    have hset : ∀ y ∈ b.set pre.length (Rule.enc true c), ∃ cs, y = .agg cs ∧ cs.length = 7 := by
      intro y hy
      rcases List.mem_or_eq_of_mem_set hy with hy | rfl
      · exact h2 y hy
      · exact ⟨_, enc_Rule, rfl⟩
    clear hs'
    simp -implicitDefEqProofs only [QS, QN, QG, QO, ZRS, ↓ZDS, ZRG, ↓ZDG, ZRO, ↓ZDO, enc_Cond, enc_Rule, c2, hx, hlt, hl2, hw1, hy, hcs, (List.drop_of_length_le (Nat.le_of_eq hcs)), toStep, SO, SH, evAppend, rowOf, noref, isRef, isPtr, noPtr, isBad, AV.isUndef, keep_17_3, leaf_some, isNormal, ifEv_bool, gate_bool, gateP_bool, gateQ_bool, pick_bool, SN, evCutRow, Int.reduceToNat, id_eq, Int.reduceBEq, Int.reduceLE, Int.reduceLT, SS, one_ne2, num_ne2, TIS, MDS, AV.cells, AV.isCell, Value.cells, Nat.reduceAdd, Nat.reduceEqDiff, Nat.reduceLT, Nat.reduceLeDiff, Nat.reduceMul, Nat.reduceSub, reduceIte]
    repeat' (split <;> (rename_i h; (try simp -implicitDefEqProofs only [Bool.not_eq_true', Bool.not_eq_false', decide_eq_true_eq, decide_eq_false_iff_not] at h); (try simp -implicitDefEqProofs only [QS, QN, QG, QO, ZRS, ↓ZDS, ZRG, ↓ZDG, ZRO, ↓ZDO, *, enc_Cond, enc_Rule, c2, hx, hlt, hl2, hw1, hy, hcs, (List.drop_of_length_le (Nat.le_of_eq hcs)), toStep, SO, SH, evAppend, rowOf, noref, isRef, isPtr, noPtr, isBad, AV.isUndef, keep_17_3, leaf_some, isNormal, ifEv_bool, gate_bool, gateP_bool, gateQ_bool, pick_bool, SN, evCutRow, Int.reduceToNat, id_eq, Int.reduceBEq, Int.reduceLE, Int.reduceLT, SS, one_ne2, num_ne2, TIS, MDS, AV.cells, AV.isCell, Value.cells, Nat.reduceAdd, Nat.reduceEqDiff, Nat.reduceLT, Nat.reduceLeDiff, Nat.reduceMul, Nat.reduceSub, reduceIte])))
    simp -implicitDefEqProofs only [enc_Cond, enc_Rule] at hset
    exact ⟨by rw [List.length_set, h1], hset⟩
  · intro y hy
    rw [List.mem_replicate] at hy
    exact ⟨_, hy.2, rfl⟩
  · simp -implicitDefEqProofs only [firstRegion]; rw [keep_17_3]; simp -implicitDefEqProofs only [QS, QN, QG, ZRS, ↓ZDS, ZRG, ↓ZDG, SN, evCutRow, Int.reduceToNat, id_eq, Int.reduceBEq, Int.reduceLE, Int.reduceLT, SS, one_ne2, num_ne2, TIS, MDS, AV.cells, AV.isCell, Value.cells, Nat.reduceAdd, Nat.reduceEqDiff, Nat.reduceLT, Nat.reduceLeDiff, Nat.reduceMul, Nat.reduceSub, reduceIte]; first | done | rfl
  · rw [toLoop _ _ _ _ (by simp)]
    simp
theorem r_laws_toPolicy {fl : Bool} (k : Nat) (hk : 290271069732864 + 6 ≤ k) (x : Policy) (hx : x.w ≤ 1099511627776) : run E noExt k 7 [x.enc fl] [] = some (x.encO, []) := by
  obtain ⟨k, rfl⟩ : ∃ j, k = j + 1 := ⟨k - 1, by omega⟩
  rw [run_succ rfl rfl, body_eq (nt := 12) (fn := Go.Proofs.Try.f7) (by kernel_rfl) rfl rfl rfl rfl rfl rfl rfl rfl]
  unfold Policy.w at hx
  have c_rules := r_laws_toRuleS (fl := fl) k (by omega) x.rules (by omega)
  simp -implicitDefEqProofs only [QS, QG, QO, ZRS, ↓ZDS, ZRG, ↓ZDG, ZRO, ↓ZDO, enc_Policy, Go.Proofs.Try.f7, c_rules, SO, SH, evAppend, rowOf, noref, isRef, isPtr, noPtr, isBad, AV.isUndef, SS, one_ne2, num_ne2, TIS, MDS, AV.cells, AV.isCell, Value.cells, Nat.reduceAdd, Nat.reduceEqDiff, Nat.reduceLT, Nat.reduceLeDiff, Nat.reduceMul, Nat.reduceSub, reduceIte]
  rfl
end Go.Proofs.Ytkadcnfpjppdbaa.Flat
