/-
What is handed: compared.
-/
import Derived.Test.YtaojmienjikfbaaGreatDoorFlatCF
import Derived.Test.YtaojmienjikfbaaGreatDoorEqD
set_option linter.unusedVariables false
set_option linter.unusedSimpArgs false
set_option maxRecDepth 10000
namespace Go.Proofs.YtaojmienjikfbaaGreatDoor.Flat
theorem eqb_Includes (x y : Includes) : decide (x = y) = ((x.greater == y.greater) && (x.lesser == y.lesser)) := by
  cases x; cases y
  rw [Bool.eq_iff_iff]
  simp [Includes.mk.injEq]
theorem eqb_Fact (x y : Fact) : decide (x = y) = ((x.kind == y.kind) && ((x.subject == y.subject) && ((x.value == y.value) && ((x.issuer == y.issuer) && ((x.at_ == y.at_) && (x.until_ == y.until_)))))) := by
  cases x; cases y
  rw [Bool.eq_iff_iff]
  simp [Fact.mk.injEq]
theorem eqb_Cond (x y : Cond) : decide (x = y) = ((x.op == y.op) && ((x.a == y.a) && ((x.b == y.b) && decide (x.args = y.args)))) := by
  cases x; cases y
  rw [Bool.eq_iff_iff]
  simp [Cond.mk.injEq]
theorem eqb_Rule (x y : Rule) : decide (x = y) = ((x.effect == y.effect) && ((x.action == y.action) && ((x.object == y.object) && decide (x.cond = y.cond)))) := by
  cases x; cases y
  rw [Bool.eq_iff_iff]
  simp [Rule.mk.injEq]
theorem eqb_Policy (x y : Policy) : decide (x = y) = ((x.version == y.version) && decide (x.rules = y.rules)) := by
  cases x; cases y
  rw [Bool.eq_iff_iff]
  simp [Policy.mk.injEq]
theorem r_laws_eqIncludes {fl gl : Bool} (k : Nat) (hk : 290271069732864 + 1 ≤ k) (x y : Includes) : run E noExt k 35 [x.enc fl, y.enc gl] [] = some (.bool (decide (x = y)), []) := by
  obtain ⟨k, rfl⟩ : ∃ j, k = j + 1 := ⟨k - 1, by omega⟩
  rw [run_succ rfl rfl, body_eq (nt := 15) (fn := Go.Proofs.Tryz.f35) (by kernel_rfl) rfl rfl rfl rfl rfl rfl rfl rfl]
  skip
  rw [eqb_Includes]
  simp -implicitDefEqProofs only [W1, ↓D1, ↓DC, QX, Go.Proofs.Tryz.f35, enc_Includes, bne, Int.reduceToNat, id_eq, Int.reduceBEq, Int.reduceLE, Int.reduceLT, Nat.reduceAdd, Nat.reduceEqDiff, Nat.reduceLT, Nat.reduceLeDiff, Nat.reduceMul, Nat.reduceSub, reduceIte]
  repeat' (split <;> (rename_i h; (try simp -implicitDefEqProofs only [Bool.not_eq_true', Bool.not_eq_false', decide_eq_true_eq, decide_eq_false_iff_not] at h); (try simp -implicitDefEqProofs only [W1, ↓D1, ↓DC, QX, *, enc_Includes, bne, Int.reduceToNat, id_eq, Int.reduceBEq, Int.reduceLE, Int.reduceLT, Nat.reduceAdd, Nat.reduceEqDiff, Nat.reduceLT, Nat.reduceLeDiff, Nat.reduceMul, Nat.reduceSub, reduceIte])))
  all_goals simp -implicitDefEqProofs only [*, Bool.true_and, Bool.false_and, Bool.and_true, Bool.and_false, Bool.false_eq_true, reduceIte]
theorem r_laws_eqIncludesS {fl gl : Bool} (k : Nat) (hk : 290271069732864 + 2 ≤ k) (s t : List Includes) (hs0 : s.length ≤ 1099511627776) : run E noExt k 14 [.sl fl (s.map (Includes.enc fl)), .sl gl (t.map (Includes.enc gl))] [] = some (.bool (decide (s = t)), []) := by
  obtain ⟨k, rfl⟩ : ∃ j, k = j + 1 := ⟨k - 1, by omega⟩
  rw [run_succ rfl rfl, body_eq (nt := 27) (fn := Go.Proofs.Tryz.f14) (by kernel_rfl) rfl rfl rfl rfl rfl rfl rfl rfl]
  have hs1 : s.length ≤ 1099511627776 := hs0
  have c1 : ∀ x ∈ s, ∀ y, run E noExt k 35 [x.enc fl, y.enc gl] [] = some (.bool (decide (x = y)), []) := fun x hx y => r_laws_eqIncludes k (by omega) x y
  have hs : s.length ≤ 140737488355328 := by omega
  simp -implicitDefEqProofs only [W1, ↓D1, ↓DC, Go.Proofs.Tryz.f14, ifEv_bool, bne, Int.reduceToNat, id_eq, Int.reduceBEq, Int.reduceLE, Int.reduceLT, Nat.reduceAdd, Nat.reduceEqDiff, Nat.reduceLT, Nat.reduceLeDiff, Nat.reduceMul, Nat.reduceSub, reduceIte]
  split
  · rename_i h
    have h' : s ≠ t := by
      rintro rfl
      simp at h
    simp -implicitDefEqProofs only [↓DC, QS, ZRS, ↓ZDS, h, h', SS, one_ne2, num_ne2, TIS, MDS, Nat.reduceAdd, Nat.reduceEqDiff, Nat.reduceLT, Nat.reduceLeDiff, Nat.reduceMul, Nat.reduceSub, reduceIte]
  · rename_i h
    have hl : s.length = t.length := by
      have h2 : (s.length : Int) = t.length := by simpa using h
      omega
    simp -implicitDefEqProofs only [↓DC, QS, ZRS, ↓ZDS, h, SS, one_ne2, num_ne2, TIS, MDS, Nat.reduceAdd, Nat.reduceEqDiff, Nat.reduceLT, Nat.reduceLeDiff, Nat.reduceMul, Nat.reduceSub, reduceIte]
    rw [ev_loop]
    refine Eq.trans (loop_list (Q := fun g x => thenEnd E.P [] _ 0 (thenEv E _ _ _ _ _ (outOf 0 x)) = some (.bool g, [])) (s.zip t) eqStep (fun _ => true)
      (fun i _ => { sl := [(0, .sl fl (s.map (Includes.enc fl))), (1, .sl gl (t.map (Includes.enc gl))), (5, .int .i64 (i : Nat))], bx := [], nx := 0, nt := 27 }) (fun _ _ => True) () ?_ ?_ (by simp; omega) trivial ?_) ?_
    · intro b _
      have hz : (s.zip t).length = s.length := by simp; omega
      simp -implicitDefEqProofs only [W2, ↓D2, ↓DC, QX, hz, leaf_some, isNormal, Int.reduceToNat, id_eq, Int.reduceBEq, Int.reduceLE, Int.reduceLT, Nat.reduceAdd, Nat.reduceEqDiff, Nat.reduceLT, Nat.reduceLeDiff, Nat.reduceMul, Nat.reduceSub, reduceIte]
      repeat' (split <;> (rename_i h; (try simp -implicitDefEqProofs only [Bool.not_eq_true', Bool.not_eq_false', decide_eq_true_eq, decide_eq_false_iff_not] at h); (try simp -implicitDefEqProofs only [W2, ↓D2, ↓DC, QX, *, hz, leaf_some, isNormal, Int.reduceToNat, id_eq, Int.reduceBEq, Int.reduceLE, Int.reduceLT, Nat.reduceAdd, Nat.reduceEqDiff, Nat.reduceLT, Nat.reduceLeDiff, Nat.reduceMul, Nat.reduceSub, reduceIte])))
    · intro pre p r b hs' _
      have hx := (zip_at hl hs').1
      have hy := (zip_at hl hs').2.1
      have e1 := (zip_at hl hs').2.2.1
      have hlt := (at_row (s := s) (pre := pre.map Prod.fst) e1 hs).2.2.1
      have hw1 := (at_row (s := s) (pre := pre.map Prod.fst) e1 hs).2.2.2.1
      have hc := (at_row (s := s) (pre := pre.map Prod.fst) e1 hs).2.1
      simp -implicitDefEqProofs only [List.length_map] at hlt hw1
      clear e1 hs'
      have c2 := c1 p.1 hc p.2
      simp -implicitDefEqProofs only [enc_Includes] at c2
      simp -implicitDefEqProofs only [W2, ↓D2, ↓DC, QX, enc_Includes, hx, hy, hlt, hw1, c2, eqStep, plan_14_6, keep_14_4, leaf_some, isNormal, Int.reduceToNat, id_eq, Int.reduceBEq, Int.reduceLE, Int.reduceLT, Nat.reduceAdd, Nat.reduceEqDiff, Nat.reduceLT, Nat.reduceLeDiff, Nat.reduceMul, Nat.reduceSub, reduceIte]
      repeat' (split <;> (rename_i h; (try simp -implicitDefEqProofs only [Bool.not_eq_true', Bool.not_eq_false', decide_eq_true_eq, decide_eq_false_iff_not] at h); (try simp -implicitDefEqProofs only [W2, ↓D2, ↓DC, QX, *, enc_Includes, hx, hy, hlt, hw1, c2, eqStep, plan_14_6, keep_14_4, leaf_some, isNormal, Int.reduceToNat, id_eq, Int.reduceBEq, Int.reduceLE, Int.reduceLT, Nat.reduceAdd, Nat.reduceEqDiff, Nat.reduceLT, Nat.reduceLeDiff, Nat.reduceMul, Nat.reduceSub, reduceIte])))
      all_goals first | done | trivial
    · simp -implicitDefEqProofs only [firstRegion]; rw [keep_14_4]; simp -implicitDefEqProofs only [W2, ↓D2, ↓DC, Int.reduceToNat, id_eq, Int.reduceBEq, Int.reduceLE, Int.reduceLT, Nat.reduceAdd, Nat.reduceEqDiff, Nat.reduceLT, Nat.reduceLeDiff, Nat.reduceMul, Nat.reduceSub, reduceIte]; first | done | rfl
    · rw [eqLoop _ _ _ hl]
theorem r_laws_eqFact {fl gl : Bool} (k : Nat) (hk : 290271069732864 + 1 ≤ k) (x y : Fact) : run E noExt k 36 [x.enc fl, y.enc gl] [] = some (.bool (decide (x = y)), []) := by
  obtain ⟨k, rfl⟩ : ∃ j, k = j + 1 := ⟨k - 1, by omega⟩
  rw [run_succ rfl rfl, body_eq (nt := 35) (fn := Go.Proofs.Tryz.f36) (by kernel_rfl) rfl rfl rfl rfl rfl rfl rfl rfl]
  skip
  rw [eqb_Fact]
  simp -implicitDefEqProofs only [W1, ↓D1, ↓DC, QX, Go.Proofs.Tryz.f36, enc_Fact, bne, Int.reduceToNat, id_eq, Int.reduceBEq, Int.reduceLE, Int.reduceLT, Nat.reduceAdd, Nat.reduceEqDiff, Nat.reduceLT, Nat.reduceLeDiff, Nat.reduceMul, Nat.reduceSub, reduceIte]
  repeat' (split <;> (rename_i h; (try simp -implicitDefEqProofs only [Bool.not_eq_true', Bool.not_eq_false', decide_eq_true_eq, decide_eq_false_iff_not] at h); (try simp -implicitDefEqProofs only [W1, ↓D1, ↓DC, QX, *, enc_Fact, bne, Int.reduceToNat, id_eq, Int.reduceBEq, Int.reduceLE, Int.reduceLT, Nat.reduceAdd, Nat.reduceEqDiff, Nat.reduceLT, Nat.reduceLeDiff, Nat.reduceMul, Nat.reduceSub, reduceIte])))
  all_goals simp -implicitDefEqProofs only [*, Bool.true_and, Bool.false_and, Bool.and_true, Bool.and_false, Bool.false_eq_true, reduceIte]
theorem r_laws_eqFactS {fl gl : Bool} (k : Nat) (hk : 290271069732864 + 2 ≤ k) (s t : List Fact) (hs0 : s.length ≤ 1099511627776) : run E noExt k 15 [.sl fl (s.map (Fact.enc fl)), .sl gl (t.map (Fact.enc gl))] [] = some (.bool (decide (s = t)), []) := by
  obtain ⟨k, rfl⟩ : ∃ j, k = j + 1 := ⟨k - 1, by omega⟩
  rw [run_succ rfl rfl, body_eq (nt := 27) (fn := Go.Proofs.Tryz.f15) (by kernel_rfl) rfl rfl rfl rfl rfl rfl rfl rfl]
  have hs1 : s.length ≤ 1099511627776 := hs0
  have c1 : ∀ x ∈ s, ∀ y, run E noExt k 36 [x.enc fl, y.enc gl] [] = some (.bool (decide (x = y)), []) := fun x hx y => r_laws_eqFact k (by omega) x y
  have hs : s.length ≤ 140737488355328 := by omega
  simp -implicitDefEqProofs only [W1, ↓D1, ↓DC, Go.Proofs.Tryz.f15, ifEv_bool, bne, Int.reduceToNat, id_eq, Int.reduceBEq, Int.reduceLE, Int.reduceLT, Nat.reduceAdd, Nat.reduceEqDiff, Nat.reduceLT, Nat.reduceLeDiff, Nat.reduceMul, Nat.reduceSub, reduceIte]
  split
  · rename_i h
    have h' : s ≠ t := by
      rintro rfl
      simp at h
    simp -implicitDefEqProofs only [↓DC, QS, ZRS, ↓ZDS, h, h', SS, one_ne2, num_ne2, TIS, MDS, Nat.reduceAdd, Nat.reduceEqDiff, Nat.reduceLT, Nat.reduceLeDiff, Nat.reduceMul, Nat.reduceSub, reduceIte]
  · rename_i h
    have hl : s.length = t.length := by
      have h2 : (s.length : Int) = t.length := by simpa using h
      omega
    simp -implicitDefEqProofs only [↓DC, QS, ZRS, ↓ZDS, h, SS, one_ne2, num_ne2, TIS, MDS, Nat.reduceAdd, Nat.reduceEqDiff, Nat.reduceLT, Nat.reduceLeDiff, Nat.reduceMul, Nat.reduceSub, reduceIte]
    rw [ev_loop]
    refine Eq.trans (loop_list (Q := fun g x => thenEnd E.P [] _ 0 (thenEv E _ _ _ _ _ (outOf 0 x)) = some (.bool g, [])) (s.zip t) eqStep (fun _ => true)
      (fun i _ => { sl := [(0, .sl fl (s.map (Fact.enc fl))), (1, .sl gl (t.map (Fact.enc gl))), (5, .int .i64 (i : Nat))], bx := [], nx := 0, nt := 27 }) (fun _ _ => True) () ?_ ?_ (by simp; omega) trivial ?_) ?_
    · intro b _
      have hz : (s.zip t).length = s.length := by simp; omega
      simp -implicitDefEqProofs only [W2, ↓D2, ↓DC, QX, hz, leaf_some, isNormal, Int.reduceToNat, id_eq, Int.reduceBEq, Int.reduceLE, Int.reduceLT, Nat.reduceAdd, Nat.reduceEqDiff, Nat.reduceLT, Nat.reduceLeDiff, Nat.reduceMul, Nat.reduceSub, reduceIte]
      repeat' (split <;> (rename_i h; (try simp -implicitDefEqProofs only [Bool.not_eq_true', Bool.not_eq_false', decide_eq_true_eq, decide_eq_false_iff_not] at h); (try simp -implicitDefEqProofs only [W2, ↓D2, ↓DC, QX, *, hz, leaf_some, isNormal, Int.reduceToNat, id_eq, Int.reduceBEq, Int.reduceLE, Int.reduceLT, Nat.reduceAdd, Nat.reduceEqDiff, Nat.reduceLT, Nat.reduceLeDiff, Nat.reduceMul, Nat.reduceSub, reduceIte])))
    · intro pre p r b hs' _
      have hx := (zip_at hl hs').1
      have hy := (zip_at hl hs').2.1
      have e1 := (zip_at hl hs').2.2.1
      have hlt := (at_row (s := s) (pre := pre.map Prod.fst) e1 hs).2.2.1
      have hw1 := (at_row (s := s) (pre := pre.map Prod.fst) e1 hs).2.2.2.1
      have hc := (at_row (s := s) (pre := pre.map Prod.fst) e1 hs).2.1
      simp -implicitDefEqProofs only [List.length_map] at hlt hw1
      clear e1 hs'
      have c2 := c1 p.1 hc p.2
      simp -implicitDefEqProofs only [enc_Fact] at c2
      simp -implicitDefEqProofs only [W2, ↓D2, ↓DC, QX, enc_Fact, hx, hy, hlt, hw1, c2, eqStep, plan_15_6, keep_15_4, leaf_some, isNormal, Int.reduceToNat, id_eq, Int.reduceBEq, Int.reduceLE, Int.reduceLT, Nat.reduceAdd, Nat.reduceEqDiff, Nat.reduceLT, Nat.reduceLeDiff, Nat.reduceMul, Nat.reduceSub, reduceIte]
      repeat' (split <;> (rename_i h; (try simp -implicitDefEqProofs only [Bool.not_eq_true', Bool.not_eq_false', decide_eq_true_eq, decide_eq_false_iff_not] at h); (try simp -implicitDefEqProofs only [W2, ↓D2, ↓DC, QX, *, enc_Fact, hx, hy, hlt, hw1, c2, eqStep, plan_15_6, keep_15_4, leaf_some, isNormal, Int.reduceToNat, id_eq, Int.reduceBEq, Int.reduceLE, Int.reduceLT, Nat.reduceAdd, Nat.reduceEqDiff, Nat.reduceLT, Nat.reduceLeDiff, Nat.reduceMul, Nat.reduceSub, reduceIte])))
      all_goals first | done | trivial
    · simp -implicitDefEqProofs only [firstRegion]; rw [keep_15_4]; simp -implicitDefEqProofs only [W2, ↓D2, ↓DC, Int.reduceToNat, id_eq, Int.reduceBEq, Int.reduceLE, Int.reduceLT, Nat.reduceAdd, Nat.reduceEqDiff, Nat.reduceLT, Nat.reduceLeDiff, Nat.reduceMul, Nat.reduceSub, reduceIte]; first | done | rfl
    · rw [eqLoop _ _ _ hl]
theorem r_laws_eqCondS0 {fl gl : Bool} (k : Nat) (s t : List Cond) (hk : 281474976710656 + 4 * wl Cond.w s + 1 ≤ k) (hs0 : wl Cond.w s ≤ 1099511627776) (c1 : ∀ x ∈ s, ∀ y, run E noExt (k - 1) 81 [x.enc fl, y.enc gl] [] = some (.bool (decide (x = y)), [])) : run E noExt k 105 [.sl fl (s.map (Cond.enc fl)), .sl gl (t.map (Cond.enc gl))] [] = some (.bool (decide (s = t)), []) := by
  obtain ⟨k, rfl⟩ : ∃ j, k = j + 1 := ⟨k - 1, by omega⟩
  rw [run_succ rfl rfl, body_eq (nt := 27) (fn := Go.Proofs.Tryz.f105) (by kernel_rfl) rfl rfl rfl rfl rfl rfl rfl rfl]
  simp -implicitDefEqProofs only [Nat.add_sub_cancel] at c1
  have hs1 : s.length ≤ 1099511627776 := Nat.le_trans (wl_length _ s) hs0
  have hs : s.length ≤ 140737488355328 := by omega
  simp -implicitDefEqProofs only [W1, ↓D1, ↓DC, Go.Proofs.Tryz.f105, ifEv_bool, bne, Int.reduceToNat, id_eq, Int.reduceBEq, Int.reduceLE, Int.reduceLT, Nat.reduceAdd, Nat.reduceEqDiff, Nat.reduceLT, Nat.reduceLeDiff, Nat.reduceMul, Nat.reduceSub, reduceIte]
  split
  · rename_i h
    have h' : s ≠ t := by
      rintro rfl
      simp at h
    simp -implicitDefEqProofs only [↓DC, QS, ZRS, ↓ZDS, h, h', SS, one_ne2, num_ne2, TIS, MDS, Nat.reduceAdd, Nat.reduceEqDiff, Nat.reduceLT, Nat.reduceLeDiff, Nat.reduceMul, Nat.reduceSub, reduceIte]
  · rename_i h
    have hl : s.length = t.length := by
      have h2 : (s.length : Int) = t.length := by simpa using h
      omega
    simp -implicitDefEqProofs only [↓DC, QS, ZRS, ↓ZDS, h, SS, one_ne2, num_ne2, TIS, MDS, Nat.reduceAdd, Nat.reduceEqDiff, Nat.reduceLT, Nat.reduceLeDiff, Nat.reduceMul, Nat.reduceSub, reduceIte]
    rw [ev_loop]
    refine Eq.trans (loop_list (Q := fun g x => thenEnd E.P [] _ 0 (thenEv E _ _ _ _ _ (outOf 0 x)) = some (.bool g, [])) (s.zip t) eqStep (fun _ => true)
      (fun i _ => { sl := [(0, .sl fl (s.map (Cond.enc fl))), (1, .sl gl (t.map (Cond.enc gl))), (5, .int .i64 (i : Nat))], bx := [], nx := 0, nt := 27 }) (fun _ _ => True) () ?_ ?_ (by simp; omega) trivial ?_) ?_
    · intro b _
      have hz : (s.zip t).length = s.length := by simp; omega
      simp -implicitDefEqProofs only [W2, ↓D2, ↓DC, QX, hz, leaf_some, isNormal, Int.reduceToNat, id_eq, Int.reduceBEq, Int.reduceLE, Int.reduceLT, Nat.reduceAdd, Nat.reduceEqDiff, Nat.reduceLT, Nat.reduceLeDiff, Nat.reduceMul, Nat.reduceSub, reduceIte]
      repeat' (split <;> (rename_i h; (try simp -implicitDefEqProofs only [Bool.not_eq_true', Bool.not_eq_false', decide_eq_true_eq, decide_eq_false_iff_not] at h); (try simp -implicitDefEqProofs only [W2, ↓D2, ↓DC, QX, *, hz, leaf_some, isNormal, Int.reduceToNat, id_eq, Int.reduceBEq, Int.reduceLE, Int.reduceLT, Nat.reduceAdd, Nat.reduceEqDiff, Nat.reduceLT, Nat.reduceLeDiff, Nat.reduceMul, Nat.reduceSub, reduceIte])))
    · intro pre p r b hs' _
      have hx := (zip_at hl hs').1
      have hy := (zip_at hl hs').2.1
      have e1 := (zip_at hl hs').2.2.1
      have hlt := (at_row (s := s) (pre := pre.map Prod.fst) e1 hs).2.2.1
      have hw1 := (at_row (s := s) (pre := pre.map Prod.fst) e1 hs).2.2.2.1
      have hc := (at_row (s := s) (pre := pre.map Prod.fst) e1 hs).2.1
      simp -implicitDefEqProofs only [List.length_map] at hlt hw1
      clear e1 hs'
      have c2 := c1 p.1 hc p.2
      simp -implicitDefEqProofs only [enc_Cond] at c2
      simp -implicitDefEqProofs only [W2, ↓D2, ↓DC, QX, enc_Cond, hx, hy, hlt, hw1, c2, eqStep, plan_105_6, keep_105_4, leaf_some, isNormal, Int.reduceToNat, id_eq, Int.reduceBEq, Int.reduceLE, Int.reduceLT, Nat.reduceAdd, Nat.reduceEqDiff, Nat.reduceLT, Nat.reduceLeDiff, Nat.reduceMul, Nat.reduceSub, reduceIte]
      repeat' (split <;> (rename_i h; (try simp -implicitDefEqProofs only [Bool.not_eq_true', Bool.not_eq_false', decide_eq_true_eq, decide_eq_false_iff_not] at h); (try simp -implicitDefEqProofs only [W2, ↓D2, ↓DC, QX, *, enc_Cond, hx, hy, hlt, hw1, c2, eqStep, plan_105_6, keep_105_4, leaf_some, isNormal, Int.reduceToNat, id_eq, Int.reduceBEq, Int.reduceLE, Int.reduceLT, Nat.reduceAdd, Nat.reduceEqDiff, Nat.reduceLT, Nat.reduceLeDiff, Nat.reduceMul, Nat.reduceSub, reduceIte])))
      all_goals first | done | trivial
    · simp -implicitDefEqProofs only [firstRegion]; rw [keep_105_4]; simp -implicitDefEqProofs only [W2, ↓D2, ↓DC, Int.reduceToNat, id_eq, Int.reduceBEq, Int.reduceLE, Int.reduceLT, Nat.reduceAdd, Nat.reduceEqDiff, Nat.reduceLT, Nat.reduceLeDiff, Nat.reduceMul, Nat.reduceSub, reduceIte]; first | done | rfl
    · rw [eqLoop _ _ _ hl]
theorem r_laws_eqCond0 {fl gl : Bool} (x : Cond) : ∀ (k : Nat), 281474976710656 + 4 * x.w + 2 ≤ k → x.w ≤ 1099511627776 → ∀ y, run E noExt k 81 [x.enc fl, y.enc gl] [] = some (.bool (decide (x = y)), []) := by
  induction x using Cond.induct with
  | h x ih =>
    intro k hk hx y
    rw [x.w_eq] at hk hx
    have c2 := r_laws_eqCondS0 (fl := fl) (gl := gl) (k - 1) x.args y.args (by omega) hx (fun c hc => ih c hc _ (by have := wl_mem (w := Cond.w) hc; omega) (by have := wl_mem (w := Cond.w) hc; omega))
    clear ih
    obtain ⟨k, rfl⟩ : ∃ j, k = j + 1 := ⟨k - 1, by omega⟩
    rw [run_succ rfl rfl, body_eq (nt := 26) (fn := Go.Proofs.Tryz.f81) (by kernel_rfl) rfl rfl rfl rfl rfl rfl rfl rfl]
    simp -implicitDefEqProofs only [Nat.add_sub_cancel] at c2
    rw [eqb_Cond]
    simp -implicitDefEqProofs only [W1, ↓D1, ↓DC, QX, Go.Proofs.Tryz.f81, enc_Cond, bne, c2, Int.reduceToNat, id_eq, Int.reduceBEq, Int.reduceLE, Int.reduceLT, Nat.reduceAdd, Nat.reduceEqDiff, Nat.reduceLT, Nat.reduceLeDiff, Nat.reduceMul, Nat.reduceSub, reduceIte]
    repeat' (split <;> (rename_i h; (try simp -implicitDefEqProofs only [Bool.not_eq_true', Bool.not_eq_false', decide_eq_true_eq, decide_eq_false_iff_not] at h); (try simp -implicitDefEqProofs only [W1, ↓D1, ↓DC, QX, *, enc_Cond, bne, c2, Int.reduceToNat, id_eq, Int.reduceBEq, Int.reduceLE, Int.reduceLT, Nat.reduceAdd, Nat.reduceEqDiff, Nat.reduceLT, Nat.reduceLeDiff, Nat.reduceMul, Nat.reduceSub, reduceIte])))
    all_goals simp -implicitDefEqProofs only [*, Bool.true_and, Bool.false_and, Bool.and_true, Bool.and_false, Bool.false_eq_true, reduceIte]
theorem r_laws_eqCond {fl gl : Bool} (k : Nat) (hk : 290271069732864 + 2 ≤ k) (x y : Cond) (hx : x.w ≤ 1099511627776) : run E noExt k 81 [x.enc fl, y.enc gl] [] = some (.bool (decide (x = y)), []) := r_laws_eqCond0 x k (by omega) hx y
theorem r_laws_eqRule {fl gl : Bool} (k : Nat) (hk : 290271069732864 + 4 ≤ k) (x y : Rule) (hx : x.w ≤ 1099511627776) : run E noExt k 60 [x.enc fl, y.enc gl] [] = some (.bool (decide (x = y)), []) := by
  obtain ⟨k, rfl⟩ : ∃ j, k = j + 1 := ⟨k - 1, by omega⟩
  rw [run_succ rfl rfl, body_eq (nt := 26) (fn := Go.Proofs.Tryz.f60) (by kernel_rfl) rfl rfl rfl rfl rfl rfl rfl rfl]
  unfold Rule.w at hx
  have c_cond := r_laws_eqCond (fl := fl) (gl := gl) k (by omega) x.cond y.cond (by omega)
  simp -implicitDefEqProofs only [enc_Cond] at c_cond
  rw [eqb_Rule]
  simp -implicitDefEqProofs only [W1, ↓D1, ↓DC, QX, Go.Proofs.Tryz.f60, enc_Rule, bne, c_cond, Int.reduceToNat, id_eq, Int.reduceBEq, Int.reduceLE, Int.reduceLT, Nat.reduceAdd, Nat.reduceEqDiff, Nat.reduceLT, Nat.reduceLeDiff, Nat.reduceMul, Nat.reduceSub, reduceIte]
  repeat' (split <;> (rename_i h; (try simp -implicitDefEqProofs only [Bool.not_eq_true', Bool.not_eq_false', decide_eq_true_eq, decide_eq_false_iff_not] at h); (try simp -implicitDefEqProofs only [W1, ↓D1, ↓DC, QX, *, enc_Rule, bne, c_cond, Int.reduceToNat, id_eq, Int.reduceBEq, Int.reduceLE, Int.reduceLT, Nat.reduceAdd, Nat.reduceEqDiff, Nat.reduceLT, Nat.reduceLeDiff, Nat.reduceMul, Nat.reduceSub, reduceIte])))
  all_goals simp -implicitDefEqProofs only [*, Bool.true_and, Bool.false_and, Bool.and_true, Bool.and_false, Bool.false_eq_true, reduceIte]
theorem r_laws_eqRuleS {fl gl : Bool} (k : Nat) (hk : 290271069732864 + 5 ≤ k) (s t : List Rule) (hs0 : wl Rule.w s ≤ 1099511627776) : run E noExt k 37 [.sl fl (s.map (Rule.enc fl)), .sl gl (t.map (Rule.enc gl))] [] = some (.bool (decide (s = t)), []) := by
  obtain ⟨k, rfl⟩ : ∃ j, k = j + 1 := ⟨k - 1, by omega⟩
  rw [run_succ rfl rfl, body_eq (nt := 27) (fn := Go.Proofs.Tryz.f37) (by kernel_rfl) rfl rfl rfl rfl rfl rfl rfl rfl]
  have hs1 : s.length ≤ 1099511627776 := Nat.le_trans (wl_length _ s) hs0
  have c1 : ∀ x ∈ s, ∀ y, run E noExt k 60 [x.enc fl, y.enc gl] [] = some (.bool (decide (x = y)), []) := fun x hx y => r_laws_eqRule k (by omega) x y (by have := wl_mem (w := Rule.w) hx; omega)
  have hs : s.length ≤ 140737488355328 := by omega
  simp -implicitDefEqProofs only [W1, ↓D1, ↓DC, Go.Proofs.Tryz.f37, ifEv_bool, bne, Int.reduceToNat, id_eq, Int.reduceBEq, Int.reduceLE, Int.reduceLT, Nat.reduceAdd, Nat.reduceEqDiff, Nat.reduceLT, Nat.reduceLeDiff, Nat.reduceMul, Nat.reduceSub, reduceIte]
  split
  · rename_i h
    have h' : s ≠ t := by
      rintro rfl
      simp at h
    simp -implicitDefEqProofs only [↓DC, QS, ZRS, ↓ZDS, h, h', SS, one_ne2, num_ne2, TIS, MDS, Nat.reduceAdd, Nat.reduceEqDiff, Nat.reduceLT, Nat.reduceLeDiff, Nat.reduceMul, Nat.reduceSub, reduceIte]
  · rename_i h
    have hl : s.length = t.length := by
      have h2 : (s.length : Int) = t.length := by simpa using h
      omega
    simp -implicitDefEqProofs only [↓DC, QS, ZRS, ↓ZDS, h, SS, one_ne2, num_ne2, TIS, MDS, Nat.reduceAdd, Nat.reduceEqDiff, Nat.reduceLT, Nat.reduceLeDiff, Nat.reduceMul, Nat.reduceSub, reduceIte]
    rw [ev_loop]
    refine Eq.trans (loop_list (Q := fun g x => thenEnd E.P [] _ 0 (thenEv E _ _ _ _ _ (outOf 0 x)) = some (.bool g, [])) (s.zip t) eqStep (fun _ => true)
      (fun i _ => { sl := [(0, .sl fl (s.map (Rule.enc fl))), (1, .sl gl (t.map (Rule.enc gl))), (5, .int .i64 (i : Nat))], bx := [], nx := 0, nt := 27 }) (fun _ _ => True) () ?_ ?_ (by simp; omega) trivial ?_) ?_
    · intro b _
      have hz : (s.zip t).length = s.length := by simp; omega
      simp -implicitDefEqProofs only [W2, ↓D2, ↓DC, QX, hz, leaf_some, isNormal, Int.reduceToNat, id_eq, Int.reduceBEq, Int.reduceLE, Int.reduceLT, Nat.reduceAdd, Nat.reduceEqDiff, Nat.reduceLT, Nat.reduceLeDiff, Nat.reduceMul, Nat.reduceSub, reduceIte]
      repeat' (split <;> (rename_i h; (try simp -implicitDefEqProofs only [Bool.not_eq_true', Bool.not_eq_false', decide_eq_true_eq, decide_eq_false_iff_not] at h); (try simp -implicitDefEqProofs only [W2, ↓D2, ↓DC, QX, *, hz, leaf_some, isNormal, Int.reduceToNat, id_eq, Int.reduceBEq, Int.reduceLE, Int.reduceLT, Nat.reduceAdd, Nat.reduceEqDiff, Nat.reduceLT, Nat.reduceLeDiff, Nat.reduceMul, Nat.reduceSub, reduceIte])))
    · intro pre p r b hs' _
      have hx := (zip_at hl hs').1
      have hy := (zip_at hl hs').2.1
      have e1 := (zip_at hl hs').2.2.1
      have hlt := (at_row (s := s) (pre := pre.map Prod.fst) e1 hs).2.2.1
      have hw1 := (at_row (s := s) (pre := pre.map Prod.fst) e1 hs).2.2.2.1
      have hc := (at_row (s := s) (pre := pre.map Prod.fst) e1 hs).2.1
      simp -implicitDefEqProofs only [List.length_map] at hlt hw1
      clear e1 hs'
      have c2 := c1 p.1 hc p.2
      simp -implicitDefEqProofs only [enc_Cond, enc_Rule] at c2
      simp -implicitDefEqProofs only [W2, ↓D2, ↓DC, QX, enc_Cond, enc_Rule, hx, hy, hlt, hw1, c2, eqStep, plan_37_6, keep_37_4, leaf_some, isNormal, Int.reduceToNat, id_eq, Int.reduceBEq, Int.reduceLE, Int.reduceLT, Nat.reduceAdd, Nat.reduceEqDiff, Nat.reduceLT, Nat.reduceLeDiff, Nat.reduceMul, Nat.reduceSub, reduceIte]
      repeat' (split <;> (rename_i h; (try simp -implicitDefEqProofs only [Bool.not_eq_true', Bool.not_eq_false', decide_eq_true_eq, decide_eq_false_iff_not] at h); (try simp -implicitDefEqProofs only [W2, ↓D2, ↓DC, QX, *, enc_Cond, enc_Rule, hx, hy, hlt, hw1, c2, eqStep, plan_37_6, keep_37_4, leaf_some, isNormal, Int.reduceToNat, id_eq, Int.reduceBEq, Int.reduceLE, Int.reduceLT, Nat.reduceAdd, Nat.reduceEqDiff, Nat.reduceLT, Nat.reduceLeDiff, Nat.reduceMul, Nat.reduceSub, reduceIte])))
      all_goals first | done | trivial
    · simp -implicitDefEqProofs only [firstRegion]; rw [keep_37_4]; simp -implicitDefEqProofs only [W2, ↓D2, ↓DC, Int.reduceToNat, id_eq, Int.reduceBEq, Int.reduceLE, Int.reduceLT, Nat.reduceAdd, Nat.reduceEqDiff, Nat.reduceLT, Nat.reduceLeDiff, Nat.reduceMul, Nat.reduceSub, reduceIte]; first | done | rfl
    · rw [eqLoop _ _ _ hl]
theorem r_laws_eqPolicy {fl gl : Bool} (k : Nat) (hk : 290271069732864 + 6 ≤ k) (x y : Policy) (hx : x.w ≤ 1099511627776) : run E noExt k 16 [x.enc fl, y.enc gl] [] = some (.bool (decide (x = y)), []) := by
  obtain ⟨k, rfl⟩ : ∃ j, k = j + 1 := ⟨k - 1, by omega⟩
  rw [run_succ rfl rfl, body_eq (nt := 16) (fn := Go.Proofs.Tryz.f16) (by kernel_rfl) rfl rfl rfl rfl rfl rfl rfl rfl]
  unfold Policy.w at hx
  have c_rules := r_laws_eqRuleS (fl := fl) (gl := gl) k (by omega) x.rules y.rules (by omega)
  rw [eqb_Policy]
  simp -implicitDefEqProofs only [W1, ↓D1, ↓DC, QX, Go.Proofs.Tryz.f16, enc_Policy, bne, c_rules, Int.reduceToNat, id_eq, Int.reduceBEq, Int.reduceLE, Int.reduceLT, Nat.reduceAdd, Nat.reduceEqDiff, Nat.reduceLT, Nat.reduceLeDiff, Nat.reduceMul, Nat.reduceSub, reduceIte]
  repeat' (split <;> (rename_i h; (try simp -implicitDefEqProofs only [Bool.not_eq_true', Bool.not_eq_false', decide_eq_true_eq, decide_eq_false_iff_not] at h); (try simp -implicitDefEqProofs only [W1, ↓D1, ↓DC, QX, *, enc_Policy, bne, c_rules, Int.reduceToNat, id_eq, Int.reduceBEq, Int.reduceLE, Int.reduceLT, Nat.reduceAdd, Nat.reduceEqDiff, Nat.reduceLT, Nat.reduceLeDiff, Nat.reduceMul, Nat.reduceSub, reduceIte])))
  all_goals simp -implicitDefEqProofs only [*, Bool.true_and, Bool.false_and, Bool.and_true, Bool.and_false, Bool.false_eq_true, reduceIte]
def inR (n a b : Int) : Bool := decide (a ≤ n) && decide (n ≤ b)
theorem r_spec_l1In (k : Nat) (hk : 281474976710656 + 1 ≤ k) (n a b : Int) : run E noExt k 45 [.int .i64 n, .int .i64 a, .int .i64 b] [] = some (.bool (inR n a b), []) := by
  obtain ⟨k, rfl⟩ : ∃ j, k = j + 1 := ⟨k - 1, by omega⟩
  rw [run_succ rfl rfl, body_eq (nt := 15) (fn := Go.Proofs.Tryz.f45) (by kernel_rfl) rfl rfl rfl rfl rfl rfl rfl rfl]
  simp -implicitDefEqProofs only [↓DC, QS, ZRS, ↓ZDS, Go.Proofs.Tryz.f45, SS, one_ne2, num_ne2, TIS, MDS, Nat.reduceAdd, Nat.reduceEqDiff, Nat.reduceLT, Nat.reduceLeDiff, Nat.reduceMul, Nat.reduceSub, reduceIte]
  by_cases h : a ≤ n <;> simp -implicitDefEqProofs only [↓DC, QS, ZRS, ↓ZDS, h, inR, SS, one_ne2, num_ne2, TIS, MDS, Nat.reduceAdd, Nat.reduceEqDiff, Nat.reduceLT, Nat.reduceLeDiff, Nat.reduceMul, Nat.reduceSub, reduceIte]
theorem r_impl_InRange (k : Nat) (hk : 281474976710656 + 1 ≤ k) (n a b : Int) : run E noExt k 52 [.int .i64 n, .int .i64 a, .int .i64 b] [] = some (.bool (inR n a b), []) := by
  obtain ⟨k, rfl⟩ : ∃ j, k = j + 1 := ⟨k - 1, by omega⟩
  rw [run_succ rfl rfl, body_eq (nt := 15) (fn := Go.Proofs.Tryz.f52) (by kernel_rfl) rfl rfl rfl rfl rfl rfl rfl rfl]
  simp -implicitDefEqProofs only [↓DC, QS, ZRS, ↓ZDS, Go.Proofs.Tryz.f52, SS, one_ne2, num_ne2, TIS, MDS, Nat.reduceAdd, Nat.reduceEqDiff, Nat.reduceLT, Nat.reduceLeDiff, Nat.reduceMul, Nat.reduceSub, reduceIte]
  by_cases h : a ≤ n <;> simp -implicitDefEqProofs only [↓DC, QS, ZRS, ↓ZDS, h, inR, SS, one_ne2, num_ne2, TIS, MDS, Nat.reduceAdd, Nat.reduceEqDiff, Nat.reduceLT, Nat.reduceLeDiff, Nat.reduceMul, Nat.reduceSub, reduceIte]
def isT (n : Int) : Bool := inR n 0 10000
theorem r_spec_IsTime (k : Nat) (hk : 281474976710656 + 2 ≤ k) (n : Int) : run E noExt k 46 [.int .i64 n] [] = some (.bool (isT n), []) := by
  obtain ⟨k, rfl⟩ : ∃ j, k = j + 1 := ⟨k - 1, by omega⟩
  rw [run_succ rfl rfl, body_eq (nt := 5) (fn := Go.Proofs.Tryz.f46) (by kernel_rfl) rfl rfl rfl rfl rfl rfl rfl rfl]
  have c_spec_l1In := r_spec_l1In k (by omega)
  simp -implicitDefEqProofs only [W1, ↓D1, ↓DC, QX, Go.Proofs.Tryz.f46, c_spec_l1In, Int.reduceToNat, id_eq, Int.reduceBEq, Int.reduceLE, Int.reduceLT, Nat.reduceAdd, Nat.reduceEqDiff, Nat.reduceLT, Nat.reduceLeDiff, Nat.reduceMul, Nat.reduceSub, reduceIte]
  repeat' (split <;> (rename_i h; (try simp -implicitDefEqProofs only [Bool.not_eq_true', Bool.not_eq_false', decide_eq_true_eq, decide_eq_false_iff_not] at h); (try simp -implicitDefEqProofs only [W1, ↓D1, ↓DC, QX, *, c_spec_l1In, Int.reduceToNat, id_eq, Int.reduceBEq, Int.reduceLE, Int.reduceLT, Nat.reduceAdd, Nat.reduceEqDiff, Nat.reduceLT, Nat.reduceLeDiff, Nat.reduceMul, Nat.reduceSub, reduceIte])))
  rfl
theorem r_impl_IsTime (k : Nat) (hk : 281474976710656 + 2 ≤ k) (n : Int) : run E noExt k 53 [.int .i64 n] [] = some (.bool (isT n), []) := by
  obtain ⟨k, rfl⟩ : ∃ j, k = j + 1 := ⟨k - 1, by omega⟩
  rw [run_succ rfl rfl, body_eq (nt := 5) (fn := Go.Proofs.Tryz.f53) (by kernel_rfl) rfl rfl rfl rfl rfl rfl rfl rfl]
  have c_impl_InRange := r_impl_InRange k (by omega)
  simp -implicitDefEqProofs only [W1, ↓D1, ↓DC, QX, Go.Proofs.Tryz.f53, c_impl_InRange, Int.reduceToNat, id_eq, Int.reduceBEq, Int.reduceLE, Int.reduceLT, Nat.reduceAdd, Nat.reduceEqDiff, Nat.reduceLT, Nat.reduceLeDiff, Nat.reduceMul, Nat.reduceSub, reduceIte]
  repeat' (split <;> (rename_i h; (try simp -implicitDefEqProofs only [Bool.not_eq_true', Bool.not_eq_false', decide_eq_true_eq, decide_eq_false_iff_not] at h); (try simp -implicitDefEqProofs only [W1, ↓D1, ↓DC, QX, *, c_impl_InRange, Int.reduceToNat, id_eq, Int.reduceBEq, Int.reduceLE, Int.reduceLT, Nat.reduceAdd, Nat.reduceEqDiff, Nat.reduceLT, Nat.reduceLeDiff, Nat.reduceMul, Nat.reduceSub, reduceIte])))
  rfl
def arity (n : Int) : Int := if (n == 7) = true then 1 else if (n == 8) = true then 2 else if (n == 9) = true then 2 else if inR n 1 6 = true then 0 else -1
theorem r_impl_ArityOf (k : Nat) (hk : 281474976710656 + 2 ≤ k) (n : Int) : run E noExt k 137 [.int .i64 n] [] = some (.int .i64 (arity n), []) := by
  obtain ⟨k, rfl⟩ : ∃ j, k = j + 1 := ⟨k - 1, by omega⟩
  rw [run_succ rfl rfl, body_eq (nt := 16) (fn := Go.Proofs.Tryz.f137) (by kernel_rfl) rfl rfl rfl rfl rfl rfl rfl rfl]
  have c_impl_InRange := r_impl_InRange k (by omega)
  simp -implicitDefEqProofs only [W1, ↓D1, ↓DC, QX, Go.Proofs.Tryz.f137, c_impl_InRange, Int.reduceToNat, id_eq, Int.reduceBEq, Int.reduceLE, Int.reduceLT, Nat.reduceAdd, Nat.reduceEqDiff, Nat.reduceLT, Nat.reduceLeDiff, Nat.reduceMul, Nat.reduceSub, reduceIte]
  repeat' (split <;> (rename_i h; (try simp -implicitDefEqProofs only [Bool.not_eq_true', Bool.not_eq_false', decide_eq_true_eq, decide_eq_false_iff_not] at h); (try simp -implicitDefEqProofs only [W1, ↓D1, ↓DC, QX, *, c_impl_InRange, Int.reduceToNat, id_eq, Int.reduceBEq, Int.reduceLE, Int.reduceLT, Nat.reduceAdd, Nat.reduceEqDiff, Nat.reduceLT, Nat.reduceLeDiff, Nat.reduceMul, Nat.reduceSub, reduceIte])))
  all_goals simp -implicitDefEqProofs only [arity, *, reduceIte, Bool.false_eq_true]
theorem r_spec_ArityOf (k : Nat) (hk : 281474976710656 + 2 ≤ k) (n : Int) : run E noExt k 133 [.int .i64 n] [] = some (.int .i64 (arity n), []) := by
  obtain ⟨k, rfl⟩ : ∃ j, k = j + 1 := ⟨k - 1, by omega⟩
  rw [run_succ rfl rfl, body_eq (nt := 16) (fn := Go.Proofs.Tryz.f133) (by kernel_rfl) rfl rfl rfl rfl rfl rfl rfl rfl]
  simp -implicitDefEqProofs only [W1, ↓D1, ↓DC, QX, Go.Proofs.Tryz.f133, Int.reduceToNat, id_eq, Int.reduceBEq, Int.reduceLE, Int.reduceLT, Nat.reduceAdd, Nat.reduceEqDiff, Nat.reduceLT, Nat.reduceLeDiff, Nat.reduceMul, Nat.reduceSub, reduceIte]
  repeat' (split <;> (rename_i h; (try simp -implicitDefEqProofs only [Bool.not_eq_true', Bool.not_eq_false', decide_eq_true_eq, decide_eq_false_iff_not] at h); (try simp -implicitDefEqProofs only [W1, ↓D1, ↓DC, QX, *, Int.reduceToNat, id_eq, Int.reduceBEq, Int.reduceLE, Int.reduceLT, Nat.reduceAdd, Nat.reduceEqDiff, Nat.reduceLT, Nat.reduceLeDiff, Nat.reduceMul, Nat.reduceSub, reduceIte])))
  all_goals simp -implicitDefEqProofs only [arity, *, reduceIte, Bool.false_eq_true]
  all_goals grind [inR]
def nodeOk (op a b : Int) (len : Nat) : Bool :=
  (((len : Int) == arity op) && inR a 0 (if (op == 2) = true then 5 else if (op == 4) = true then 3 else if (op == 5) = true then 3 else if (op == 6) = true then 10000 else 0)) && inR b 0 (if inR op 2 5 = true then 10000 else 0)
set_option maxHeartbeats 4000000 in
theorem r_impl_isNode (k : Nat) (hk : 281474976710656 + 3 ≤ k) (op a b : Int) (fl : Bool) (xs : List AV) : run E noExt k 119 [.agg [.int .i64 op, .int .i64 a, .int .i64 b, .sl fl xs]] [] = some (.bool (nodeOk op a b xs.length), []) := by
  obtain ⟨k, rfl⟩ : ∃ j, k = j + 1 := ⟨k - 1, by omega⟩
  rw [run_succ rfl rfl, body_eq (nt := 36) (fn := Go.Proofs.Tryz.f119) (by kernel_rfl) rfl rfl rfl rfl rfl rfl rfl rfl]
  have c_impl_InRange := r_impl_InRange k (by omega)
  have c_impl_ArityOf := r_impl_ArityOf k (by omega)
  simp -implicitDefEqProofs only [W1, ↓D1, ↓DC, QX, Go.Proofs.Tryz.f119, c_impl_InRange, c_impl_ArityOf, plan_119_12, len_sl, Int.reduceToNat, id_eq, Int.reduceBEq, Int.reduceLE, Int.reduceLT, Nat.reduceAdd, Nat.reduceEqDiff, Nat.reduceLT, Nat.reduceLeDiff, Nat.reduceMul, Nat.reduceSub, reduceIte]
  repeat' (split <;> (rename_i h; (try simp -implicitDefEqProofs only [Bool.not_eq_true', Bool.not_eq_false', decide_eq_true_eq, decide_eq_false_iff_not] at h); (try simp -implicitDefEqProofs only [W1, ↓D1, ↓DC, QX, *, c_impl_InRange, c_impl_ArityOf, plan_119_12, len_sl, Int.reduceToNat, id_eq, Int.reduceBEq, Int.reduceLE, Int.reduceLT, Nat.reduceAdd, Nat.reduceEqDiff, Nat.reduceLT, Nat.reduceLeDiff, Nat.reduceMul, Nat.reduceSub, reduceIte])))
  all_goals simp -implicitDefEqProofs only [nodeOk, *, reduceIte, Bool.false_eq_true, Bool.true_and, Bool.and_true, Bool.false_and, Bool.and_false]
set_option maxHeartbeats 4000000 in
theorem r_spec_l15Node (k : Nat) (hk : 281474976710656 + 3 ≤ k) (op a b : Int) (fl : Bool) (xs : List AV) : run E noExt k 115 [.agg [.int .i64 op, .int .i64 a, .int .i64 b, .sl fl xs]] [] = some (.bool (nodeOk op a b xs.length), []) := by
  obtain ⟨k, rfl⟩ : ∃ j, k = j + 1 := ⟨k - 1, by omega⟩
  rw [run_succ rfl rfl, body_eq (nt := 48) (fn := Go.Proofs.Tryz.f115) (by kernel_rfl) rfl rfl rfl rfl rfl rfl rfl rfl]
  have c_spec_l1In := r_spec_l1In k (by omega)
  have c_spec_IsTime := r_spec_IsTime k (by omega)
  have c_spec_ArityOf := r_spec_ArityOf k (by omega)
  simp -implicitDefEqProofs only [W1, ↓D1, ↓DC, QX, Go.Proofs.Tryz.f115, c_spec_l1In, c_spec_IsTime, c_spec_ArityOf, plan_115_13, len_sl, Int.reduceToNat, id_eq, Int.reduceBEq, Int.reduceLE, Int.reduceLT, Nat.reduceAdd, Nat.reduceEqDiff, Nat.reduceLT, Nat.reduceLeDiff, Nat.reduceMul, Nat.reduceSub, reduceIte]
  repeat' (split <;> (rename_i h; (try simp -implicitDefEqProofs only [Bool.not_eq_true', Bool.not_eq_false', decide_eq_true_eq, decide_eq_false_iff_not] at h); (try simp -implicitDefEqProofs only [W1, ↓D1, ↓DC, QX, *, c_spec_l1In, c_spec_IsTime, c_spec_ArityOf, plan_115_13, len_sl, Int.reduceToNat, id_eq, Int.reduceBEq, Int.reduceLE, Int.reduceLT, Nat.reduceAdd, Nat.reduceEqDiff, Nat.reduceLT, Nat.reduceLeDiff, Nat.reduceMul, Nat.reduceSub, reduceIte])))
  all_goals grind [nodeOk, inR, isT]
end Go.Proofs.YtaojmienjikfbaaGreatDoor.Flat
