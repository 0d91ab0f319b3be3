/-
What is handed: searched and compared by functions.
-/
import Derived.Test.YtaojmienjikfbaaGreatDoorFlatCF
import Derived.Test.YtaojmienjikfbaaGreatDoorEqD
import Derived.Test.YtaojmienjikfbaaGreatDoorEqA
set_option linter.unusedVariables false
set_option linter.unusedSimpArgs false
set_option maxRecDepth 10000
namespace Go.Proofs.YtaojmienjikfbaaGreatDoor.Flat
theorem r_slices_Index_Int {fl gl : Bool} (k : Nat) (hk : 281474976710656 + 1 ≤ k) (s : List Int) (hs : s.length ≤ 140737488355328) (x : Int) :
    run E noExt k 67 [.sl fl (s.map (AV.int .i64)), .int .i64 x] [] = some (.int .i64 (indexBy (fun y => decide (x = y)) 0 s), []) := by
  obtain ⟨k, rfl⟩ : ∃ j, k = j + 1 := ⟨k - 1, by omega⟩
  rw [run_succ rfl rfl, body_eq (nt := 19) (fn := Go.Proofs.Tryz.f67) (by kernel_rfl) rfl rfl rfl rfl rfl rfl rfl rfl]
  simp -implicitDefEqProofs only [W1, ↓D1, ↓DC, Go.Proofs.Tryz.f67, ifEv_bool, bne, Int.reduceToNat, id_eq, Int.reduceBEq, Int.reduceLE, Int.reduceLT, Nat.reduceAdd, Nat.reduceEqDiff, Nat.reduceLT, Nat.reduceLeDiff, Nat.reduceMul, Nat.reduceSub, reduceIte]
  rw [ev_loop]
  refine Eq.trans (loop_list (Q := fun g x => thenEnd E.P [] _ 0 (thenEv E _ _ _ _ _ (outOf 0 x)) = some (.int .i64 g, [])) s (indexStep fun y => decide (x = y)) (fun _ => -1)
    (fun i _ => { sl := [(0, .sl fl (s.map (AV.int .i64))), (1, .int .i64 x), (7, .int .i64 (s.length : Nat)), (8, .int .i64 (i : Nat))], bx := [], nx := 0, nt := 19 }) (fun _ _ => True) () ?_ ?_ (by omega) trivial ?_) ?_
  · intro b _
    simp -implicitDefEqProofs only [W2, ↓D2, ↓DC, QX, leaf_some, isNormal, Int.reduceToNat, id_eq, Int.reduceBEq, Int.reduceLE, Int.reduceLT, Nat.reduceAdd, Nat.reduceEqDiff, Nat.reduceLT, Nat.reduceLeDiff, Nat.reduceMul, Nat.reduceSub, reduceIte]
    repeat' (split <;> (rename_i h; (try simp -implicitDefEqProofs only [Bool.not_eq_true', Bool.not_eq_false', decide_eq_true_eq, decide_eq_false_iff_not] at h); (try simp -implicitDefEqProofs only [W2, ↓D2, ↓DC, QX, *, leaf_some, isNormal, Int.reduceToNat, id_eq, Int.reduceBEq, Int.reduceLE, Int.reduceLT, Nat.reduceAdd, Nat.reduceEqDiff, Nat.reduceLT, Nat.reduceLeDiff, Nat.reduceMul, Nat.reduceSub, reduceIte])))
  · intro pre c r b hs' _
    have hx := (at_row hs' hs).1; have hc := (at_row hs' hs).2.1; have hlt := (at_row hs' hs).2.2.1; have hw1 := (at_row hs' hs).2.2.2.1; have hl9 := (at_row hs' hs).2.2.2.2
    clear hs'
    have hq : decide (x = c) = (x == c) := by rw [Bool.eq_iff_iff]; simp
    simp -implicitDefEqProofs only [W2, ↓D2, ↓DC, QX, hx, hlt, hw1, hq, indexStep, keep_67_2, leaf_some, isNormal, Int.reduceToNat, id_eq, Int.reduceBEq, Int.reduceLE, Int.reduceLT, Nat.reduceAdd, Nat.reduceEqDiff, Nat.reduceLT, Nat.reduceLeDiff, Nat.reduceMul, Nat.reduceSub, reduceIte]
    repeat' (split <;> (rename_i h; (try simp -implicitDefEqProofs only [Bool.not_eq_true', Bool.not_eq_false', decide_eq_true_eq, decide_eq_false_iff_not] at h); (try simp -implicitDefEqProofs only [W2, ↓D2, ↓DC, QX, *, hx, hlt, hw1, hq, indexStep, keep_67_2, leaf_some, isNormal, Int.reduceToNat, id_eq, Int.reduceBEq, Int.reduceLE, Int.reduceLT, Nat.reduceAdd, Nat.reduceEqDiff, Nat.reduceLT, Nat.reduceLeDiff, Nat.reduceMul, Nat.reduceSub, reduceIte])))
  · simp -implicitDefEqProofs only [firstRegion]; rw [keep_67_2]; simp -implicitDefEqProofs only [W2, ↓D2, ↓DC, Int.reduceToNat, id_eq, Int.reduceBEq, Int.reduceLE, Int.reduceLT, Nat.reduceAdd, Nat.reduceEqDiff, Nat.reduceLT, Nat.reduceLeDiff, Nat.reduceMul, Nat.reduceSub, reduceIte]; first | done | rfl
  · rw [indexLoop]
theorem r_slices_Contains_Int {fl gl : Bool} (k : Nat) (hk : 281474976710656 + 2 ≤ k) (s : List Int) (hs : s.length ≤ 140737488355328) (x : Int) :
    run E noExt k 41 [.sl fl (s.map (AV.int .i64)), .int .i64 x] [] = some (.bool (s.any fun y => decide (x = y)), []) := by
  have c2 := r_slices_Index_Int (fl := fl) (gl := gl) (k - 1) (by omega) s hs x
  obtain ⟨k, rfl⟩ : ∃ j, k = j + 1 := ⟨k - 1, by omega⟩
  rw [run_succ rfl rfl, body_eq (nt := 9) (fn := Go.Proofs.Tryz.f41) (by kernel_rfl) rfl rfl rfl rfl rfl rfl rfl rfl]
  simp -implicitDefEqProofs only [Nat.add_sub_cancel, id_eq] at c2
  simp -implicitDefEqProofs only [W1, ↓D1, ↓DC, Go.Proofs.Tryz.f41, c2, Int.reduceToNat, id_eq, Int.reduceBEq, Int.reduceLE, Int.reduceLT, Nat.reduceAdd, Nat.reduceEqDiff, Nat.reduceLT, Nat.reduceLeDiff, Nat.reduceMul, Nat.reduceSub, reduceIte]
  rw [indexBy_nonneg]
theorem r_slices_IndexFunc_Fact {fl : Bool} (k : Nat) (s : List Fact) (hk : 281474976710656 + 1 ≤ k) (hs : s.length ≤ 140737488355328) (F : Nat) (caps : List AV) (hP : Plain caps) (p : Fact → Bool)
    (hF : ∀ x ∈ s, run E noExt (k - 1) F ([x.enc fl] ++ caps) [] = some (.bool (p x), [])) (hmdF : E.md F = [] := by rfl) :
    run E noExt k 123 [.sl fl (s.map (Fact.enc fl)), .clo F caps] [] = some (.int .i64 (indexBy p 0 s), []) := by
  obtain ⟨k, rfl⟩ : ∃ j, k = j + 1 := ⟨k - 1, by omega⟩
  rw [run_succ rfl rfl, body_eq (nt := 19) (fn := Go.Proofs.Tryz.f123) (by kernel_rfl) rfl rfl rfl rfl rfl rfl rfl rfl]
  simp -implicitDefEqProofs only [Nat.add_sub_cancel] at hF
  have hR := hP.rows; have hB := hP.boxes; have hM := hP.map; have hLd := hP.lend
  simp -implicitDefEqProofs only [W1, ↓D1, ↓DC, Go.Proofs.Tryz.f123, ifEv_bool, bne, hLd, Int.reduceToNat, id_eq, Int.reduceBEq, Int.reduceLE, Int.reduceLT, Nat.reduceAdd, Nat.reduceEqDiff, Nat.reduceLT, Nat.reduceLeDiff, Nat.reduceMul, Nat.reduceSub, reduceIte]
  rw [ev_loop]
  refine Eq.trans (loop_list (Q := fun g x => thenEnd E.P [] _ 0 (thenEv E _ _ _ _ _ (outOf 0 x)) = some (.int .i64 g, [])) s (indexStep p) (fun _ => -1)
    (fun i _ => { sl := [(0, .sl fl (s.map (Fact.enc fl))), (1, .clo F caps), (7, .int .i64 (s.length : Nat)), (8, .int .i64 (i : Nat))], bx := [], nx := 0, nt := 19 }) (fun _ _ => True) () ?_ ?_ (by omega) trivial ?_) ?_
  · intro b _
    simp -implicitDefEqProofs only [W2, ↓D2, ↓DC, QX, leaf_some, isNormal, Int.reduceToNat, id_eq, Int.reduceBEq, Int.reduceLE, Int.reduceLT, Nat.reduceAdd, Nat.reduceEqDiff, Nat.reduceLT, Nat.reduceLeDiff, Nat.reduceMul, Nat.reduceSub, reduceIte]
    repeat' (split <;> (rename_i h; (try simp -implicitDefEqProofs only [Bool.not_eq_true', Bool.not_eq_false', decide_eq_true_eq, decide_eq_false_iff_not] at h); (try simp -implicitDefEqProofs only [W2, ↓D2, ↓DC, QX, *, leaf_some, isNormal, Int.reduceToNat, id_eq, Int.reduceBEq, Int.reduceLE, Int.reduceLT, Nat.reduceAdd, Nat.reduceEqDiff, Nat.reduceLT, Nat.reduceLeDiff, Nat.reduceMul, Nat.reduceSub, reduceIte])))
  · intro pre c r b hs' _
    have hx := (at_row hs' hs).1; have hc := (at_row hs' hs).2.1; have hlt := (at_row hs' hs).2.2.1; have hw1 := (at_row hs' hs).2.2.2.1
    clear hs'
    have c2 := hF c hc
    simp -implicitDefEqProofs only [enc_Fact, List.cons_append, List.nil_append] at c2
    simp -implicitDefEqProofs only [W2, ↓D2, ↓DC, QX, enc_Fact, hx, hlt, hw1, c2, indexStep, hmdF, hLd, hR, hB, hM, keep_123_2, leaf_some, isNormal, Int.reduceToNat, id_eq, Int.reduceBEq, Int.reduceLE, Int.reduceLT, Nat.reduceAdd, Nat.reduceEqDiff, Nat.reduceLT, Nat.reduceLeDiff, Nat.reduceMul, Nat.reduceSub, reduceIte]
    repeat' (split <;> (rename_i h; (try simp -implicitDefEqProofs only [Bool.not_eq_true', Bool.not_eq_false', decide_eq_true_eq, decide_eq_false_iff_not] at h); (try simp -implicitDefEqProofs only [W2, ↓D2, ↓DC, QX, *, enc_Fact, hx, hlt, hw1, c2, indexStep, hmdF, hLd, hR, hB, hM, keep_123_2, leaf_some, isNormal, Int.reduceToNat, id_eq, Int.reduceBEq, Int.reduceLE, Int.reduceLT, Nat.reduceAdd, Nat.reduceEqDiff, Nat.reduceLT, Nat.reduceLeDiff, Nat.reduceMul, Nat.reduceSub, reduceIte])))
  · simp -implicitDefEqProofs only [firstRegion]; rw [keep_123_2]; simp -implicitDefEqProofs only [W2, ↓D2, ↓DC, hR, hB, hM, Int.reduceToNat, id_eq, Int.reduceBEq, Int.reduceLE, Int.reduceLT, Nat.reduceAdd, Nat.reduceEqDiff, Nat.reduceLT, Nat.reduceLeDiff, Nat.reduceMul, Nat.reduceSub, reduceIte]; first | done | rfl
  · rw [indexLoop]
theorem r_slices_IndexFunc_Cond {fl : Bool} (k : Nat) (s : List Cond) (hk : 281474976710656 + 1 ≤ k) (hs : s.length ≤ 140737488355328) (F : Nat) (caps : List AV) (hP : Plain caps) (p : Cond → Bool)
    (hF : ∀ x ∈ s, run E noExt (k - 1) F ([x.enc fl] ++ caps) [] = some (.bool (p x), [])) (hmdF : E.md F = [] := by rfl) :
    run E noExt k 138 [.sl fl (s.map (Cond.enc fl)), .clo F caps] [] = some (.int .i64 (indexBy p 0 s), []) := by
  obtain ⟨k, rfl⟩ : ∃ j, k = j + 1 := ⟨k - 1, by omega⟩
  rw [run_succ rfl rfl, body_eq (nt := 19) (fn := Go.Proofs.Tryz.f138) (by kernel_rfl) rfl rfl rfl rfl rfl rfl rfl rfl]
  simp -implicitDefEqProofs only [Nat.add_sub_cancel] at hF
  have hR := hP.rows; have hB := hP.boxes; have hM := hP.map; have hLd := hP.lend
  simp -implicitDefEqProofs only [W1, ↓D1, ↓DC, Go.Proofs.Tryz.f138, ifEv_bool, bne, hLd, Int.reduceToNat, id_eq, Int.reduceBEq, Int.reduceLE, Int.reduceLT, Nat.reduceAdd, Nat.reduceEqDiff, Nat.reduceLT, Nat.reduceLeDiff, Nat.reduceMul, Nat.reduceSub, reduceIte]
  rw [ev_loop]
  refine Eq.trans (loop_list (Q := fun g x => thenEnd E.P [] _ 0 (thenEv E _ _ _ _ _ (outOf 0 x)) = some (.int .i64 g, [])) s (indexStep p) (fun _ => -1)
    (fun i _ => { sl := [(0, .sl fl (s.map (Cond.enc fl))), (1, .clo F caps), (7, .int .i64 (s.length : Nat)), (8, .int .i64 (i : Nat))], bx := [], nx := 0, nt := 19 }) (fun _ _ => True) () ?_ ?_ (by omega) trivial ?_) ?_
  · intro b _
    simp -implicitDefEqProofs only [W2, ↓D2, ↓DC, QX, leaf_some, isNormal, Int.reduceToNat, id_eq, Int.reduceBEq, Int.reduceLE, Int.reduceLT, Nat.reduceAdd, Nat.reduceEqDiff, Nat.reduceLT, Nat.reduceLeDiff, Nat.reduceMul, Nat.reduceSub, reduceIte]
    repeat' (split <;> (rename_i h; (try simp -implicitDefEqProofs only [Bool.not_eq_true', Bool.not_eq_false', decide_eq_true_eq, decide_eq_false_iff_not] at h); (try simp -implicitDefEqProofs only [W2, ↓D2, ↓DC, QX, *, leaf_some, isNormal, Int.reduceToNat, id_eq, Int.reduceBEq, Int.reduceLE, Int.reduceLT, Nat.reduceAdd, Nat.reduceEqDiff, Nat.reduceLT, Nat.reduceLeDiff, Nat.reduceMul, Nat.reduceSub, reduceIte])))
  · intro pre c r b hs' _
    have hx := (at_row hs' hs).1; have hc := (at_row hs' hs).2.1; have hlt := (at_row hs' hs).2.2.1; have hw1 := (at_row hs' hs).2.2.2.1
    clear hs'
    have c2 := hF c hc
    simp -implicitDefEqProofs only [enc_Cond, List.cons_append, List.nil_append] at c2
    simp -implicitDefEqProofs only [W2, ↓D2, ↓DC, QX, enc_Cond, hx, hlt, hw1, c2, indexStep, hmdF, hLd, hR, hB, hM, keep_138_2, leaf_some, isNormal, Int.reduceToNat, id_eq, Int.reduceBEq, Int.reduceLE, Int.reduceLT, Nat.reduceAdd, Nat.reduceEqDiff, Nat.reduceLT, Nat.reduceLeDiff, Nat.reduceMul, Nat.reduceSub, reduceIte]
    repeat' (split <;> (rename_i h; (try simp -implicitDefEqProofs only [Bool.not_eq_true', Bool.not_eq_false', decide_eq_true_eq, decide_eq_false_iff_not] at h); (try simp -implicitDefEqProofs only [W2, ↓D2, ↓DC, QX, *, enc_Cond, hx, hlt, hw1, c2, indexStep, hmdF, hLd, hR, hB, hM, keep_138_2, leaf_some, isNormal, Int.reduceToNat, id_eq, Int.reduceBEq, Int.reduceLE, Int.reduceLT, Nat.reduceAdd, Nat.reduceEqDiff, Nat.reduceLT, Nat.reduceLeDiff, Nat.reduceMul, Nat.reduceSub, reduceIte])))
  · simp -implicitDefEqProofs only [firstRegion]; rw [keep_138_2]; simp -implicitDefEqProofs only [W2, ↓D2, ↓DC, hR, hB, hM, Int.reduceToNat, id_eq, Int.reduceBEq, Int.reduceLE, Int.reduceLT, Nat.reduceAdd, Nat.reduceEqDiff, Nat.reduceLT, Nat.reduceLeDiff, Nat.reduceMul, Nat.reduceSub, reduceIte]; first | done | rfl
  · rw [indexLoop]
theorem r_slices_ContainsFunc_Cond {fl : Bool} (k : Nat) (s : List Cond) (hk : 281474976710656 + 2 ≤ k) (hs : s.length ≤ 140737488355328) (F : Nat) (caps : List AV) (hP : Plain caps) (p : Cond → Bool)
    (hF : ∀ x ∈ s, run E noExt (k - 2) F ([x.enc fl] ++ caps) [] = some (.bool (p x), [])) (hmdF : E.md F = [] := by rfl) :
    run E noExt k 120 [.sl fl (s.map (Cond.enc fl)), .clo F caps] [] = some (.bool (s.any p), []) := by
  have c2 := r_slices_IndexFunc_Cond (fl := fl) (k - 1) s (by omega) hs F caps hP p (by rw [show k - 1 - 1 = k - 2 by omega]; exact hF) hmdF
  have hR := hP.rows; have hB := hP.boxes; have hM := hP.map; have hLd := hP.lend
  clear hF
  obtain ⟨k, rfl⟩ : ∃ j, k = j + 1 := ⟨k - 1, by omega⟩
  rw [run_succ rfl rfl, body_eq (nt := 9) (fn := Go.Proofs.Tryz.f120) (by kernel_rfl) rfl rfl rfl rfl rfl rfl rfl rfl]
  simp -implicitDefEqProofs only [Nat.add_sub_cancel] at c2
  simp -implicitDefEqProofs only [W1, ↓D1, ↓DC, Go.Proofs.Tryz.f120, c2, hLd, Int.reduceToNat, id_eq, Int.reduceBEq, Int.reduceLE, Int.reduceLT, Nat.reduceAdd, Nat.reduceEqDiff, Nat.reduceLT, Nat.reduceLeDiff, Nat.reduceMul, Nat.reduceSub, reduceIte]
  rw [indexBy_nonneg]
theorem r_slices_IndexFunc_Rule {fl : Bool} (k : Nat) (s : List Rule) (hk : 281474976710656 + 1 ≤ k) (hs : s.length ≤ 140737488355328) (F : Nat) (caps : List AV) (hP : Plain caps) (p : Rule → Bool)
    (hF : ∀ x ∈ s, run E noExt (k - 1) F ([x.enc fl] ++ caps) [] = some (.bool (p x), [])) (hmdF : E.md F = [] := by rfl) :
    run E noExt k 75 [.sl fl (s.map (Rule.enc fl)), .clo F caps] [] = some (.int .i64 (indexBy p 0 s), []) := by
  obtain ⟨k, rfl⟩ : ∃ j, k = j + 1 := ⟨k - 1, by omega⟩
  rw [run_succ rfl rfl, body_eq (nt := 19) (fn := Go.Proofs.Tryz.f75) (by kernel_rfl) rfl rfl rfl rfl rfl rfl rfl rfl]
  simp -implicitDefEqProofs only [Nat.add_sub_cancel] at hF
  have hR := hP.rows; have hB := hP.boxes; have hM := hP.map; have hLd := hP.lend
  simp -implicitDefEqProofs only [W1, ↓D1, ↓DC, Go.Proofs.Tryz.f75, ifEv_bool, bne, hLd, Int.reduceToNat, id_eq, Int.reduceBEq, Int.reduceLE, Int.reduceLT, Nat.reduceAdd, Nat.reduceEqDiff, Nat.reduceLT, Nat.reduceLeDiff, Nat.reduceMul, Nat.reduceSub, reduceIte]
  rw [ev_loop]
  refine Eq.trans (loop_list (Q := fun g x => thenEnd E.P [] _ 0 (thenEv E _ _ _ _ _ (outOf 0 x)) = some (.int .i64 g, [])) s (indexStep p) (fun _ => -1)
    (fun i _ => { sl := [(0, .sl fl (s.map (Rule.enc fl))), (1, .clo F caps), (7, .int .i64 (s.length : Nat)), (8, .int .i64 (i : Nat))], bx := [], nx := 0, nt := 19 }) (fun _ _ => True) () ?_ ?_ (by omega) trivial ?_) ?_
  · intro b _
    simp -implicitDefEqProofs only [W2, ↓D2, ↓DC, QX, leaf_some, isNormal, Int.reduceToNat, id_eq, Int.reduceBEq, Int.reduceLE, Int.reduceLT, Nat.reduceAdd, Nat.reduceEqDiff, Nat.reduceLT, Nat.reduceLeDiff, Nat.reduceMul, Nat.reduceSub, reduceIte]
    repeat' (split <;> (rename_i h; (try simp -implicitDefEqProofs only [Bool.not_eq_true', Bool.not_eq_false', decide_eq_true_eq, decide_eq_false_iff_not] at h); (try simp -implicitDefEqProofs only [W2, ↓D2, ↓DC, QX, *, leaf_some, isNormal, Int.reduceToNat, id_eq, Int.reduceBEq, Int.reduceLE, Int.reduceLT, Nat.reduceAdd, Nat.reduceEqDiff, Nat.reduceLT, Nat.reduceLeDiff, Nat.reduceMul, Nat.reduceSub, reduceIte])))
  · intro pre c r b hs' _
    have hx := (at_row hs' hs).1; have hc := (at_row hs' hs).2.1; have hlt := (at_row hs' hs).2.2.1; have hw1 := (at_row hs' hs).2.2.2.1
    clear hs'
    have c2 := hF c hc
    simp -implicitDefEqProofs only [enc_Cond, enc_Rule, List.cons_append, List.nil_append] at c2
    simp -implicitDefEqProofs only [W2, ↓D2, ↓DC, QX, enc_Cond, enc_Rule, hx, hlt, hw1, c2, indexStep, hmdF, hLd, hR, hB, hM, keep_75_2, leaf_some, isNormal, Int.reduceToNat, id_eq, Int.reduceBEq, Int.reduceLE, Int.reduceLT, Nat.reduceAdd, Nat.reduceEqDiff, Nat.reduceLT, Nat.reduceLeDiff, Nat.reduceMul, Nat.reduceSub, reduceIte]
    repeat' (split <;> (rename_i h; (try simp -implicitDefEqProofs only [Bool.not_eq_true', Bool.not_eq_false', decide_eq_true_eq, decide_eq_false_iff_not] at h); (try simp -implicitDefEqProofs only [W2, ↓D2, ↓DC, QX, *, enc_Cond, enc_Rule, hx, hlt, hw1, c2, indexStep, hmdF, hLd, hR, hB, hM, keep_75_2, leaf_some, isNormal, Int.reduceToNat, id_eq, Int.reduceBEq, Int.reduceLE, Int.reduceLT, Nat.reduceAdd, Nat.reduceEqDiff, Nat.reduceLT, Nat.reduceLeDiff, Nat.reduceMul, Nat.reduceSub, reduceIte])))
  · simp -implicitDefEqProofs only [firstRegion]; rw [keep_75_2]; simp -implicitDefEqProofs only [W2, ↓D2, ↓DC, hR, hB, hM, Int.reduceToNat, id_eq, Int.reduceBEq, Int.reduceLE, Int.reduceLT, Nat.reduceAdd, Nat.reduceEqDiff, Nat.reduceLT, Nat.reduceLeDiff, Nat.reduceMul, Nat.reduceSub, reduceIte]; first | done | rfl
  · rw [indexLoop]
theorem r_slices_ContainsFunc_Rule {fl : Bool} (k : Nat) (s : List Rule) (hk : 281474976710656 + 2 ≤ k) (hs : s.length ≤ 140737488355328) (F : Nat) (caps : List AV) (hP : Plain caps) (p : Rule → Bool)
    (hF : ∀ x ∈ s, run E noExt (k - 2) F ([x.enc fl] ++ caps) [] = some (.bool (p x), [])) (hmdF : E.md F = [] := by rfl) :
    run E noExt k 54 [.sl fl (s.map (Rule.enc fl)), .clo F caps] [] = some (.bool (s.any p), []) := by
  have c2 := r_slices_IndexFunc_Rule (fl := fl) (k - 1) s (by omega) hs F caps hP p (by rw [show k - 1 - 1 = k - 2 by omega]; exact hF) hmdF
  have hR := hP.rows; have hB := hP.boxes; have hM := hP.map; have hLd := hP.lend
  clear hF
  obtain ⟨k, rfl⟩ : ∃ j, k = j + 1 := ⟨k - 1, by omega⟩
  rw [run_succ rfl rfl, body_eq (nt := 9) (fn := Go.Proofs.Tryz.f54) (by kernel_rfl) rfl rfl rfl rfl rfl rfl rfl rfl]
  simp -implicitDefEqProofs only [Nat.add_sub_cancel] at c2
  simp -implicitDefEqProofs only [W1, ↓D1, ↓DC, Go.Proofs.Tryz.f54, c2, hLd, Int.reduceToNat, id_eq, Int.reduceBEq, Int.reduceLE, Int.reduceLT, Nat.reduceAdd, Nat.reduceEqDiff, Nat.reduceLT, Nat.reduceLeDiff, Nat.reduceMul, Nat.reduceSub, reduceIte]
  rw [indexBy_nonneg]
end Go.Proofs.YtaojmienjikfbaaGreatDoor.Flat
