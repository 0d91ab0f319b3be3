/-
Conflicts are told, idle rules change nothing, safer policies permit no more: the law.
-/
import Derived.Test.YtokjpncehggojaaGreatEqU
import Derived.Test.YtokjpncehggojaaGreatEqAN
set_option linter.unusedVariables false
set_option linter.unusedSimpArgs false
set_option maxRecDepth 10000
namespace Go.Proofs.YtokjpncehggojaaGreat.Flat
theorem r_laws_sameInts {fl gl : Bool} (k : Nat) (hk : 281474976710656 + 1 ≤ k) (s : List Int) (hs0 : s.length ≤ 1099511627776) :
    run E noExt k 8 [.sl fl (s.map (AV.int .i64)), .sl gl (s.map (AV.int .i64))] [] = some (.bool true, []) := by
  have hs : s.length ≤ 140737488355328 := by omega
  obtain ⟨k, rfl⟩ : ∃ j, k = j + 1 := ⟨k - 1, by omega⟩
  rw [run_succ rfl rfl, body_eq (nt := 26) (fn := Go.Proofs.Tryz.f8) (by kernel_rfl) rfl rfl rfl rfl rfl rfl rfl rfl]
  simp -implicitDefEqProofs only [W1, ↓D1, ↓DC, Go.Proofs.Tryz.f8, bne_self_eq_false, Int.reduceToNat, id_eq, Int.reduceBEq, Int.reduceLE, Int.reduceLT, Nat.reduceAdd, Nat.reduceEqDiff, Nat.reduceLT, Nat.reduceLeDiff, Nat.reduceMul, Nat.reduceSub, reduceIte]
  rw [ev_loop]
  refine Eq.trans (loop_list (Q := fun (_ : Unit) z => thenEnd E.P [] _ 0 (thenEv E _ _ _ _ _ (outOf 0 z)) = some (.bool true, [])) s (fun _ _ _ => .inr ()) id
    (fun i _ => { sl := [(0, .sl fl (s.map (AV.int .i64))), (1, .sl gl (s.map (AV.int .i64))), (5, .int .i64 (i : Nat))], bx := [], nx := 0, nt := 26 }) (fun _ _ => True) () ?_ ?_ (by omega) trivial ?_) ?_
  · intro _ _
    simp -implicitDefEqProofs only [W3, ↓D3, ↓DA, ↓DP, ↓DC, QX, SH, leaf_some, isNormal, Int.reduceToNat, id_eq, Int.reduceBEq, Int.reduceLE, Int.reduceLT, Nat.reduceAdd, Nat.reduceEqDiff, Nat.reduceLT, Nat.reduceLeDiff, Nat.reduceMul, Nat.reduceSub, reduceIte]
    repeat' (split <;> (rename_i h; (try simp -implicitDefEqProofs only [Bool.not_eq_true', Bool.not_eq_false', decide_eq_true_eq, decide_eq_false_iff_not] at h); (try simp -implicitDefEqProofs only [W3, ↓D3, ↓DA, ↓DP, ↓DC, QX, *, SH, leaf_some, isNormal, Int.reduceToNat, id_eq, Int.reduceBEq, Int.reduceLE, Int.reduceLT, Nat.reduceAdd, Nat.reduceEqDiff, Nat.reduceLT, Nat.reduceLeDiff, Nat.reduceMul, Nat.reduceSub, reduceIte])))
  · intro pre c r _ hs' _
    have hx := (at_row hs' hs).1; have hc := (at_row hs' hs).2.1; have hlt := (at_row hs' hs).2.2.1; have hw1 := (at_row hs' hs).2.2.2.1; have hl9 := (at_row hs' hs).2.2.2.2
    clear hs'
    simp -implicitDefEqProofs only [W3, ↓D3, ↓DA, ↓DP, ↓DC, QX, hx, hlt, hw1, bne_self_eq_false, plan_8_6, SH, keep_8_4, leaf_some, isNormal, Int.reduceToNat, id_eq, Int.reduceBEq, Int.reduceLE, Int.reduceLT, Nat.reduceAdd, Nat.reduceEqDiff, Nat.reduceLT, Nat.reduceLeDiff, Nat.reduceMul, Nat.reduceSub, reduceIte]
    repeat' (split <;> (rename_i h; (try simp -implicitDefEqProofs only [Bool.not_eq_true', Bool.not_eq_false', decide_eq_true_eq, decide_eq_false_iff_not] at h); (try simp -implicitDefEqProofs only [W3, ↓D3, ↓DA, ↓DP, ↓DC, QX, *, hx, hlt, hw1, bne_self_eq_false, plan_8_6, SH, keep_8_4, leaf_some, isNormal, Int.reduceToNat, id_eq, Int.reduceBEq, Int.reduceLE, Int.reduceLT, Nat.reduceAdd, Nat.reduceEqDiff, Nat.reduceLT, Nat.reduceLeDiff, Nat.reduceMul, Nat.reduceSub, reduceIte])))
  · simp -implicitDefEqProofs only [firstRegion]
    rw [keep_8_4]
    simp -implicitDefEqProofs only [W3, ↓D3, ↓DA, ↓DP, ↓DC, Int.reduceToNat, id_eq, Int.reduceBEq, Int.reduceLE, Int.reduceLT, SH, Nat.reduceAdd, Nat.reduceEqDiff, Nat.reduceLT, Nat.reduceLeDiff, Nat.reduceMul, Nat.reduceSub, reduceIte]
  · rfl
theorem holdL_at {f : Rule → Bool} : ∀ (s : List Rule) (i : Nat) (z : Int), z ∈ holdL f i s → ∃ j a, z = ((i + j : Nat) : Int) ∧ s[j]? = some a ∧ f a = true
  | [], i, z, h => by simp [holdL] at h
  | r :: s, i, z, h => by
    have step : z ∈ holdL f (i + 1) s → ∃ j a, z = ((i + j : Nat) : Int) ∧ (r :: s)[j]? = some a ∧ f a = true := fun h => by
      obtain ⟨j, a, h1, h2, h3⟩ := holdL_at s (i + 1) z h
      exact ⟨j + 1, a, by rw [h1]; omega, by simpa using h2, h3⟩
    simp -implicitDefEqProofs only [holdL] at h
    split at h
    · rename_i hf
      rcases List.mem_cons.1 h with rfl | h
      · exact ⟨0, r, by simp, rfl, hf⟩
      · exact step h
    · exact step h
noncomputable def toldStep (x y : Int) (_ : Nat) (c : Conflict) (b : Bool) : Sum Bool Bool := .inr (b || (c.permit == x && c.deny == y))
theorem toldLoop (x y : Int) : ∀ (l : List Conflict) (i : Nat) (b : Bool), loopL (toldStep x y) id i l b = (b || l.any fun c => c.permit == x && c.deny == y)
  | [], i, b => by simp [loopL]
  | c :: r, i, b => by
    simp -implicitDefEqProofs only [loopL, toldStep, List.any_cons]
    rw [toldLoop x y r (i + 1), Bool.or_assoc]
set_option maxHeartbeats 8000000 in
theorem law_FnAnalyzed (bs : List Int) (hfit : FitL (fun _ => True) bs) (k : Nat) (hk : 1152921504606846976 ≤ k) : run E noExt k 3 [.sl false (bs.map byteA)] [] = some (.bool true, []) := by
  by_cases hlen : bs.length ≤ 1048576
  · have c0 := r_laws_big (fl := false) (k - 1) (by omega) bs (by omega)
    rw [decide_eq_false (by omega : ¬ (1048576 : Int) < (bs.length : Nat))] at c0
    have c1 := r_spec_DrawRulesThatHold (fl := false) (k - 1) (by omega) bs (by omega)
    have c6 := r_spec_DrawIsIdle (fl := false) (k - 1) (by omega) bs (by omega)
    obtain ⟨A, B, ao, oo, xs, fz, hxs, hAw, hBw, c12⟩ := r_spec_DrawIsSafer (fl := false) (k - 1) (by omega) bs (by omega)
    have hll : (anC bs).1.length ≤ 3 := caseD_len1
    have hsl : (anC bs).2.1.length ≤ 30 := caseD_len
    have hpw : (anP bs).w ≤ 1000 := Nat.le_trans policyD_w (by decide)
    obtain ⟨n, hn, hiw⟩ := idle_facts bs
    rw [hn] at c6
    generalize idleL bs = xr at *
    generalize (anC bs).1 = l at *
    generalize (anC bs).2.1 = s at *
    generalize (anC bs).2.2.1 = q at *
    generalize anP bs = p at *
    have hp1 : p.rules.length ≤ 1000 := Nat.le_trans (wl_length _ _) hpw
    have hpl : p.rules.length ≤ 140737488355328 := by omega
    have hhl := holdL_length (ruleAt l s q) p.rules 0
    have hat := fun z => holdL_at (f := ruleAt l s q) p.rules 0 z
    have c2 := r_impl_RulesThatHold (fl := true) (f2 := true) (f3 := true) (f4 := true) (k - 1) (by omega) l (by omega) s (by omega) p (by omega) q
    have c3 := r_impl_ConflictsIn (fl := true) rfl (k - 1) (by omega) p (by omega)
    have c4 := r_spec_RulesThatHold (fl := true) (f2 := true) (f3 := true) (f4 := true) (k - 1) (by omega) l (by omega) s (by omega) p (by omega) q
    have c5 := r_laws_sameInts (fl := true) (gl := true) (k - 1) (by omega) (holdL (ruleAt l s q) 0 p.rules) (by omega)
    have c7 := r_impl_IsIdle (k - 1) (by omega) ⟨1, xr⟩ (by unfold Policy.w; simp only; omega) (n : Nat)
    have c8 := r_impl_IsRequest (fl := true) (k - 1) (by omega) q
    have c9 := r_impl_DecideBy (fl := true) (f2 := true) (f3 := true) (f4 := true) (k - 1) (by omega) l (by omega) s (by omega) ⟨1, xr⟩ (by unfold Policy.w; simp only; omega) q
    have c10 := r_impl_WithoutRule (k - 1) (by omega) ⟨1, xr⟩ (by unfold Policy.w; simp only; omega) n
    have hdw := dropR_w xr n
    have c11 := r_impl_DecideBy (fl := true) (f2 := true) (f3 := true) (f4 := true) (k - 1) (by omega) l (by omega) s (by omega) ⟨1, dropR xr n⟩ (by unfold Policy.w; simp only; omega) q
    have c13 := r_impl_IsSafer (k - 1) (by omega) A B (by omega) (by omega) ao oo
    have c14 := r_impl_DecideBy (fl := true) (f2 := true) (f3 := true) (f4 := true) (k - 1) (by omega) l (by omega) s (by omega) A (by omega) ⟨q.person, q.device, q.program, ao, oo, q.now⟩
    have c15 := r_impl_DecideBy (fl := true) (f2 := true) (f3 := true) (f4 := true) (k - 1) (by omega) l (by omega) s (by omega) B (by omega) ⟨q.person, q.device, q.program, ao, oo, q.now⟩
    have hidle := idle_same (l := l) (s := s) (p := ⟨1, xr⟩) (q := q) (i := n)
    have hsafe := safer_le (l := l) (s := s) (a := A) (b := B) (q := ⟨q.person, q.device, q.program, ao, oo, q.now⟩)
    have htold : ∀ (i j : Nat) (a b : Rule), p.rules[i]? = some a → p.rules[j]? = some b → ruleAt l s q a = true → ruleAt l s q b = true → a.effect = 1 → b.effect = 0 → (conflicts p).any (fun c => c.permit == (i : Int) && c.deny == (j : Int)) = true := fun i j a b h1 h2 h3 h4 h5 h6 => List.any_eq_true.2 ⟨_, conflict_told h1 h2 h3 h4 h5 h6, by simp⟩
    have hcl := conflicts_len p
    have hcm : p.w * p.w ≤ 1000 * 1000 := Nat.mul_le_mul hpw hpw
    obtain ⟨k, rfl⟩ : ∃ j, k = j + 1 := ⟨k - 1, by omega⟩
    rw [run_succ rfl rfl, body_eq (nt := 161) (fn := Go.Proofs.Tryz.f3) (by kernel_rfl) rfl rfl rfl rfl rfl rfl rfl rfl]
    simp -implicitDefEqProofs only [Nat.add_sub_cancel, enc_Policy, enc_Request] at c0 c1 c2 c3 c4 c5 c6 c7 c8 c9 c10 c11 c12 c13 c14 c15
    generalize hL : holdL (ruleAt l s q) 0 p.rules = L at *
    generalize conflicts p = F at *
    have hLl : L.length ≤ 140737488355328 := by omega
    have hFl : F.length ≤ 140737488355328 := by omega
    simp -implicitDefEqProofs only [W4, ↓D4, ↓DA, ↓DP, ↓DC, Go.Proofs.Tryz.f3, c0, c1, c2, c3, c4, c5, scals_ints, tscals_Conflict, scals_Fact, shuts_Fact, tscals_Includes, shuts_Includes, shuts_Rule, ifEv_bool, gate_bool, pick_bool, SH, dedup, nodupB, idx, AV.rows, AV.rowss, AV.mapO, AV.mapOs, Int.reduceToNat, id_eq, Int.reduceBEq, Int.reduceLE, Int.reduceLT, Nat.reduceAdd, Nat.reduceEqDiff, Nat.reduceLT, Nat.reduceLeDiff, Nat.reduceMul, Nat.reduceSub, reduceIte]
    rw [ev_loop]
    refine Eq.trans (loop_list (Q := fun (_ : Unit) z => thenEnd E.P [] _ 0 (thenEv E _ _ _ _ _ (outOf 0 z)) = some (.bool true, [])) L (fun _ _ _ => .inr ()) id
      (fun i _ => { sl := [(0, .sl false (bs.map byteA)), (3, .own 0 false 113 2 (l.map (Includes.enc true))), (4, .own 1 false 92 6 (s.map (Fact.enc true))), (5, .ptr 0 0), (6, .ptr 1 0), (7, .own 2 false 3 1 (L.map (AV.int .i64))), (8, .own 3 false 44 2 (F.map (Conflict.enc true))), (9, .int .i64 (i : Nat))],
                    bx := [(0, [.int .i64 p.version, .own 4 false 42 7 (p.rules.map (Rule.enc true))]), (1, [.int .i64 q.person, .int .i64 q.device, .int .i64 q.program, .int .i64 q.action, .int .i64 q.object, .int .i64 q.now])], nx := 7, nt := 161 }) (fun _ _ => True) () ?_ ?_ (by omega) trivial ?_) ?_
    · intro _ _
      have hlt : ¬ ((L.length : Nat) : Int) < ((L.length : Nat) : Int) := by omega
      clear hat htold hcl
      have hsf : isSafer A B ao oo = true → decide (decideBy l s A ⟨q.person, q.device, q.program, ao, oo, q.now⟩ ≤ decideBy l s B ⟨q.person, q.device, q.program, ao, oo, q.now⟩) = true := fun h => decide_eq_true (hsafe h)
      generalize decideBy l s A ⟨q.person, q.device, q.program, ao, oo, q.now⟩ = d1 at *
      generalize decideBy l s B ⟨q.person, q.device, q.program, ao, oo, q.now⟩ = d2 at *
      clear hsafe
      cases hI : isIdle ⟨1, xr⟩ (n : Nat)
      · rw [hI] at c7
        cases hS : isSafer A B ao oo
        · rw [hS] at c13
          simp -implicitDefEqProofs only [W3, ↓D3, ↓DA, ↓DP, ↓DC, QX, hlt, c6, c7, c8, c9, c10, c11, c12, c13, c14, c15, hxs, St.openB, after_refG, rowU_nil, scals_ints, tscals_Conflict, scals_Fact, shuts_Fact, tscals_Includes, shuts_Includes, shuts_Rule, bne_self_eq_false, leaf_some, isNormal, plan_3_14, plan_3_19, plan_3_23, plan_3_29, SH, Int.reduceToNat, id_eq, Int.reduceBEq, Int.reduceLE, Int.reduceLT, Nat.reduceAdd, Nat.reduceEqDiff, Nat.reduceLT, Nat.reduceLeDiff, Nat.reduceMul, Nat.reduceSub, reduceIte]
          try trace_state
        · rw [hS] at c13
          have hd := hsf hS
          simp -implicitDefEqProofs only [W3, ↓D3, ↓DA, ↓DP, ↓DC, QX, hd, hlt, c6, c7, c8, c9, c10, c11, c12, c13, c14, c15, hxs, St.openB, after_refG, rowU_nil, scals_ints, tscals_Conflict, scals_Fact, shuts_Fact, tscals_Includes, shuts_Includes, shuts_Rule, bne_self_eq_false, leaf_some, isNormal, plan_3_14, plan_3_19, plan_3_23, plan_3_29, SH, Int.reduceToNat, id_eq, Int.reduceBEq, Int.reduceLE, Int.reduceLT, Nat.reduceAdd, Nat.reduceEqDiff, Nat.reduceLT, Nat.reduceLeDiff, Nat.reduceMul, Nat.reduceSub, reduceIte]
          try trace_state
      · rw [hI] at c7
        cases hR : isRequest q
        · rw [hR] at c8
          cases hS : isSafer A B ao oo
          · rw [hS] at c13
            simp -implicitDefEqProofs only [W3, ↓D3, ↓DA, ↓DP, ↓DC, QX, hlt, c6, c7, c8, c9, c10, c11, c12, c13, c14, c15, hxs, St.openB, after_refG, rowU_nil, scals_ints, tscals_Conflict, scals_Fact, shuts_Fact, tscals_Includes, shuts_Includes, shuts_Rule, bne_self_eq_false, leaf_some, isNormal, plan_3_14, plan_3_19, plan_3_23, plan_3_29, SH, Int.reduceToNat, id_eq, Int.reduceBEq, Int.reduceLE, Int.reduceLT, Nat.reduceAdd, Nat.reduceEqDiff, Nat.reduceLT, Nat.reduceLeDiff, Nat.reduceMul, Nat.reduceSub, reduceIte]
            try trace_state
          · rw [hS] at c13
            have hd := hsf hS
            simp -implicitDefEqProofs only [W3, ↓D3, ↓DA, ↓DP, ↓DC, QX, hd, hlt, c6, c7, c8, c9, c10, c11, c12, c13, c14, c15, hxs, St.openB, after_refG, rowU_nil, scals_ints, tscals_Conflict, scals_Fact, shuts_Fact, tscals_Includes, shuts_Includes, shuts_Rule, bne_self_eq_false, leaf_some, isNormal, plan_3_14, plan_3_19, plan_3_23, plan_3_29, SH, Int.reduceToNat, id_eq, Int.reduceBEq, Int.reduceLE, Int.reduceLT, Nat.reduceAdd, Nat.reduceEqDiff, Nat.reduceLT, Nat.reduceLeDiff, Nat.reduceMul, Nat.reduceSub, reduceIte]
            try trace_state
        · rw [hR] at c8
          have he := hidle hI hR
          rw [← he] at c11
          cases hS : isSafer A B ao oo
          all_goals
            rw [hS] at c13
            rcases Classical.em (dropR xr n = []) with hD | hD
          · rw [hD] at c10 c11
            simp -implicitDefEqProofs only [rowU_nil, List.map_nil] at c10 c11
            simp -implicitDefEqProofs only [W3, ↓D3, ↓DA, ↓DP, ↓DC, QX, hlt, c6, c7, c8, c9, c10, c11, c12, c13, c14, c15, hxs, St.openB, after_refG, rowU_nil, scals_ints, tscals_Conflict, scals_Fact, shuts_Fact, tscals_Includes, shuts_Includes, shuts_Rule, bne_self_eq_false, leaf_some, isNormal, plan_3_14, plan_3_19, plan_3_23, plan_3_29, SH, Int.reduceToNat, id_eq, Int.reduceBEq, Int.reduceLE, Int.reduceLT, Nat.reduceAdd, Nat.reduceEqDiff, Nat.reduceLT, Nat.reduceLeDiff, Nat.reduceMul, Nat.reduceSub, reduceIte]
            try trace_state
          · rw [rowU_ne hD] at c10
            simp -implicitDefEqProofs only [W3, ↓D3, ↓DA, ↓DP, ↓DC, QX, hlt, c6, c7, c8, c9, c10, c11, c12, c13, c14, c15, hxs, St.openB, after_refG, rowU_nil, scals_ints, tscals_Conflict, scals_Fact, shuts_Fact, tscals_Includes, shuts_Includes, shuts_Rule, bne_self_eq_false, leaf_some, isNormal, plan_3_14, plan_3_19, plan_3_23, plan_3_29, SH, Int.reduceToNat, id_eq, Int.reduceBEq, Int.reduceLE, Int.reduceLT, Nat.reduceAdd, Nat.reduceEqDiff, Nat.reduceLT, Nat.reduceLeDiff, Nat.reduceMul, Nat.reduceSub, reduceIte]
            try trace_state
          · rw [hD] at c10 c11
            simp -implicitDefEqProofs only [rowU_nil, List.map_nil] at c10 c11
            have hd := hsf hS
            simp -implicitDefEqProofs only [W3, ↓D3, ↓DA, ↓DP, ↓DC, QX, hd, hlt, c6, c7, c8, c9, c10, c11, c12, c13, c14, c15, hxs, St.openB, after_refG, rowU_nil, scals_ints, tscals_Conflict, scals_Fact, shuts_Fact, tscals_Includes, shuts_Includes, shuts_Rule, bne_self_eq_false, leaf_some, isNormal, plan_3_14, plan_3_19, plan_3_23, plan_3_29, SH, Int.reduceToNat, id_eq, Int.reduceBEq, Int.reduceLE, Int.reduceLT, Nat.reduceAdd, Nat.reduceEqDiff, Nat.reduceLT, Nat.reduceLeDiff, Nat.reduceMul, Nat.reduceSub, reduceIte]
            try trace_state
          · rw [rowU_ne hD] at c10
            have hd := hsf hS
            simp -implicitDefEqProofs only [W3, ↓D3, ↓DA, ↓DP, ↓DC, QX, hd, hlt, c6, c7, c8, c9, c10, c11, c12, c13, c14, c15, hxs, St.openB, after_refG, rowU_nil, scals_ints, tscals_Conflict, scals_Fact, shuts_Fact, tscals_Includes, shuts_Includes, shuts_Rule, bne_self_eq_false, leaf_some, isNormal, plan_3_14, plan_3_19, plan_3_23, plan_3_29, SH, Int.reduceToNat, id_eq, Int.reduceBEq, Int.reduceLE, Int.reduceLT, Nat.reduceAdd, Nat.reduceEqDiff, Nat.reduceLT, Nat.reduceLeDiff, Nat.reduceMul, Nat.reduceSub, reduceIte]
            try trace_state
    · intro pre x r' _ hs' _
      have hx := (at_row hs' hLl).1; have hc := (at_row hs' hLl).2.1; have hlt := (at_row hs' hLl).2.2.1; have hw1 := (at_row hs' hLl).2.2.2.1; have hl9 := (at_row hs' hLl).2.2.2.2
      clear hs'
      obtain ⟨j, a, hj, ha, hra⟩ := hat x hc
      rw [Nat.zero_add] at hj
      have hjl := (List.getElem?_eq_some_iff.1 ha).1
      have hjl' : ((j : Nat) : Int) < ((p.rules.length : Nat) : Int) := by omega
      clear c0 c1 c2 c3 c4 c5 c6 c7 c8 c9 c10 c11 c12 c13 c14 c15 hidle hsafe hxs
      subst hj
      simp -implicitDefEqProofs only [W4, ↓D4, ↓DA, ↓DP, ↓DC, hlt, leaf_some, isNormal, ifEv_bool, SH, dedup, nodupB, idx, AV.rows, AV.rowss, AV.mapO, AV.mapOs, Int.reduceToNat, id_eq, Int.reduceBEq, Int.reduceLE, Int.reduceLT, Nat.reduceAdd, Nat.reduceEqDiff, Nat.reduceLT, Nat.reduceLeDiff, Nat.reduceMul, Nat.reduceSub, reduceIte]
      rw [ev_loop]
      refine loop_list (Q := fun (_ : Unit) z => Leaf (thenEv E _ _ _ _ _ (outOf 1 (outOf 2 z))) _) L (fun _ _ _ => .inr ()) id
        (fun m _ => { sl := [(0, .sl false (bs.map byteA)), (3, .own 0 false 113 2 (l.map (Includes.enc true))), (4, .own 1 false 92 6 (s.map (Fact.enc true))), (5, .ptr 0 0), (6, .ptr 1 0), (7, .own 2 false 3 1 (L.map (AV.int .i64))), (8, .own 3 false 44 2 (F.map (Conflict.enc true))), (9, .int .i64 (pre.length : Nat)), (10, .int .i64 (m : Nat))], bx := [(0, [.int .i64 p.version, .own 4 false 42 7 (p.rules.map (Rule.enc true))]), (1, [.int .i64 q.person, .int .i64 q.device, .int .i64 q.program, .int .i64 q.action, .int .i64 q.object, .int .i64 q.now])], nx := 7, nt := 161 }) (fun _ _ => True) () ?_ ?_ (by omega) trivial ?_
      · intro _ _
        simp -implicitDefEqProofs only [W3, ↓D3, ↓DA, ↓DP, ↓DC, QX, hw1, SH, keep_3_9, leaf_some, isNormal, Int.reduceToNat, id_eq, Int.reduceBEq, Int.reduceLE, Int.reduceLT, Nat.reduceAdd, Nat.reduceEqDiff, Nat.reduceLT, Nat.reduceLeDiff, Nat.reduceMul, Nat.reduceSub, reduceIte]
        repeat' (split <;> (rename_i h; (try simp -implicitDefEqProofs only [Bool.not_eq_true', Bool.not_eq_false', decide_eq_true_eq, decide_eq_false_iff_not] at h); (try simp -implicitDefEqProofs only [W3, ↓D3, ↓DA, ↓DP, ↓DC, QX, *, hw1, SH, keep_3_9, leaf_some, isNormal, Int.reduceToNat, id_eq, Int.reduceBEq, Int.reduceLE, Int.reduceLT, Nat.reduceAdd, Nat.reduceEqDiff, Nat.reduceLT, Nat.reduceLeDiff, Nat.reduceMul, Nat.reduceSub, reduceIte])))
        try trace_state
      · intro pre2 y r2 _ hs2 _
        have hx2 := (at_row hs2 hLl).1
        have hc2 := (at_row hs2 hLl).2.1
        have hlt2 := (at_row hs2 hLl).2.2.1
        have hw2 := (at_row hs2 hLl).2.2.2.1
        clear hs2
        obtain ⟨j2, b, hj2, hb, hrb⟩ := hat y hc2
        rw [Nat.zero_add] at hj2
        have hjl2 := (List.getElem?_eq_some_iff.1 hb).1
        have hjl2' : ((j2 : Nat) : Int) < ((p.rules.length : Nat) : Int) := by omega
        subst hj2
        cases e1 : a.effect == 1
        ·
          simp -implicitDefEqProofs only [W3, ↓D3, ↓DA, ↓DP, ↓DC, QX, enc_Rule, hx, hlt, hx2, hlt2, hw2, ha, hjl', e1, bne, plan_3_14, plan_3_19, plan_3_23, plan_3_29, SH, keep_3_12, leaf_some, isNormal, Int.reduceToNat, id_eq, Int.reduceBEq, Int.reduceLE, Int.reduceLT, Nat.reduceAdd, Nat.reduceEqDiff, Nat.reduceLT, Nat.reduceLeDiff, Nat.reduceMul, Nat.reduceSub, reduceIte]
          try trace_state
        · cases e2 : b.effect == 0
          ·
            simp -implicitDefEqProofs only [W3, ↓D3, ↓DA, ↓DP, ↓DC, QX, enc_Rule, hx, hlt, hx2, hlt2, hw2, ha, hb, hjl', hjl2', e1, e2, bne, plan_3_14, plan_3_19, plan_3_23, plan_3_29, SH, keep_3_12, leaf_some, isNormal, Int.reduceToNat, id_eq, Int.reduceBEq, Int.reduceLE, Int.reduceLT, Nat.reduceAdd, Nat.reduceEqDiff, Nat.reduceLT, Nat.reduceLeDiff, Nat.reduceMul, Nat.reduceSub, reduceIte]
            try trace_state
          · have htl := (toldLoop ((j : Nat) : Int) ((j2 : Nat) : Int) F 0 false).trans (by rw [htold j j2 a b ha hb hra hrb (by simpa using e1) (by simpa using e2)]; rfl : (false || F.any fun c => c.permit == ((j : Nat) : Int) && c.deny == ((j2 : Nat) : Int)) = true)
            simp -implicitDefEqProofs only [W4, ↓D4, ↓DA, ↓DP, ↓DC, QX, enc_Rule, hx, hlt, hx2, hlt2, ha, hb, hjl', hjl2', e1, e2, bne, leaf_some, isNormal, plan_3_14, plan_3_19, plan_3_23, plan_3_29, SH, dedup, nodupB, idx, AV.rows, AV.rowss, AV.mapO, AV.mapOs, Int.reduceToNat, id_eq, Int.reduceBEq, Int.reduceLE, Int.reduceLT, Nat.reduceAdd, Nat.reduceEqDiff, Nat.reduceLT, Nat.reduceLeDiff, Nat.reduceMul, Nat.reduceSub, reduceIte]
            rw [ev_loop]
            refine loop_list (Q := fun (g : Bool) z => g = true → Leaf (thenEv E _ _ _ _ _ (outOf 3 (thenEv E _ _ _ _ _ (outOf 4 z)))) _) F (toldStep ((j : Nat) : Int) ((j2 : Nat) : Int)) id
              (fun m b => { sl := [(0, .sl false (bs.map byteA)), (3, .own 0 false 113 2 (l.map (Includes.enc true))), (4, .own 1 false 92 6 (s.map (Fact.enc true))), (5, .ptr 0 0), (6, .ptr 1 0), (7, .own 2 false 3 1 (L.map (AV.int .i64))), (8, .own 3 false 44 2 (F.map (Conflict.enc true))), (9, .int .i64 (pre.length : Nat)), (10, .int .i64 (pre2.length : Nat)), (11, .bool b), (12, .int .i64 (m : Nat))], bx := [(0, [.int .i64 p.version, .own 4 false 42 7 (p.rules.map (Rule.enc true))]), (1, [.int .i64 q.person, .int .i64 q.device, .int .i64 q.program, .int .i64 q.action, .int .i64 q.object, .int .i64 q.now])], nx := 7, nt := 161 }) (fun _ _ => True) false ?_ ?_ (by omega) trivial ?_ htl
            · intro b _
              simp -implicitDefEqProofs only [W4, ↓D4, ↓DA, ↓DP, ↓DC, leaf_some, isNormal, ifEv_bool, SH, dedup, nodupB, idx, AV.rows, AV.rowss, AV.mapO, AV.mapOs, Int.reduceToNat, id_eq, Int.reduceBEq, Int.reduceLE, Int.reduceLT, Nat.reduceAdd, Nat.reduceEqDiff, Nat.reduceLT, Nat.reduceLeDiff, Nat.reduceMul, Nat.reduceSub, reduceIte]
              intro he
              have he : b = true := he
              subst he
              simp -implicitDefEqProofs only [W3, ↓D3, ↓DA, ↓DP, ↓DC, QX, hw2, SH, keep_3_12, leaf_some, isNormal, Int.reduceToNat, id_eq, Int.reduceBEq, Int.reduceLE, Int.reduceLT, Nat.reduceAdd, Nat.reduceEqDiff, Nat.reduceLT, Nat.reduceLeDiff, Nat.reduceMul, Nat.reduceSub, reduceIte]
              try trace_state
            · intro pre3 c r3 b hs3 _
              have hx3 := (at_row hs3 hFl).1
              have hlt3 := (at_row hs3 hFl).2.2.1
              have hw3 := (at_row hs3 hFl).2.2.2.1
              clear hs3
              cases b
              · simp -implicitDefEqProofs only [toldStep, Bool.false_or]
                simp -implicitDefEqProofs only [W3, ↓D3, ↓DA, ↓DP, ↓DC, QX, enc_Conflict, hx, hlt, hx2, hlt2, hx3, hlt3, hw3, plan_3_14, plan_3_19, plan_3_23, plan_3_29, SH, keep_3_17, leaf_some, isNormal, Int.reduceToNat, id_eq, Int.reduceBEq, Int.reduceLE, Int.reduceLT, Nat.reduceAdd, Nat.reduceEqDiff, Nat.reduceLT, Nat.reduceLeDiff, Nat.reduceMul, Nat.reduceSub, reduceIte]
                try trace_state
              · simp -implicitDefEqProofs only [toldStep, Bool.true_or]
                simp -implicitDefEqProofs only [W3, ↓D3, ↓DA, ↓DP, ↓DC, QX, enc_Conflict, hx, hlt, hx2, hlt2, hx3, hlt3, hw3, plan_3_14, plan_3_19, plan_3_23, plan_3_29, SH, keep_3_17, leaf_some, isNormal, Int.reduceToNat, id_eq, Int.reduceBEq, Int.reduceLE, Int.reduceLT, Nat.reduceAdd, Nat.reduceEqDiff, Nat.reduceLT, Nat.reduceLeDiff, Nat.reduceMul, Nat.reduceSub, reduceIte]
                try trace_state
            · simp -implicitDefEqProofs only [firstRegion]
              rw [keep_3_17]
              simp -implicitDefEqProofs only [W3, ↓D3, ↓DA, ↓DP, ↓DC, Int.reduceToNat, id_eq, Int.reduceBEq, Int.reduceLE, Int.reduceLT, SH, Nat.reduceAdd, Nat.reduceEqDiff, Nat.reduceLT, Nat.reduceLeDiff, Nat.reduceMul, Nat.reduceSub, reduceIte]
              try trace_state
      · simp -implicitDefEqProofs only [firstRegion]
        rw [keep_3_12]
        simp -implicitDefEqProofs only [W3, ↓D3, ↓DA, ↓DP, ↓DC, Int.reduceToNat, id_eq, Int.reduceBEq, Int.reduceLE, Int.reduceLT, SH, Nat.reduceAdd, Nat.reduceEqDiff, Nat.reduceLT, Nat.reduceLeDiff, Nat.reduceMul, Nat.reduceSub, reduceIte]
        try trace_state
    · simp -implicitDefEqProofs only [firstRegion]
      rw [keep_3_9]
      simp -implicitDefEqProofs only [W3, ↓D3, ↓DA, ↓DP, ↓DC, Int.reduceToNat, id_eq, Int.reduceBEq, Int.reduceLE, Int.reduceLT, SH, Nat.reduceAdd, Nat.reduceEqDiff, Nat.reduceLT, Nat.reduceLeDiff, Nat.reduceMul, Nat.reduceSub, reduceIte]
    · rfl
  · have hl : bs.length ≤ 140737488355328 := hfit.1
    have c0 := r_laws_big (fl := false) (k - 1) (by omega) bs hl
    rw [decide_eq_true (by omega : (1048576 : Int) < (bs.length : Nat))] at c0
    obtain ⟨k, rfl⟩ : ∃ j, k = j + 1 := ⟨k - 1, by omega⟩
    rw [run_succ rfl rfl, body_eq (nt := 161) (fn := Go.Proofs.Tryz.f3) (by kernel_rfl) rfl rfl rfl rfl rfl rfl rfl rfl]
    simp -implicitDefEqProofs only [Nat.add_sub_cancel] at c0
    simp -implicitDefEqProofs only [W3, ↓D3, ↓DA, ↓DP, ↓DC, Go.Proofs.Tryz.f3, c0, SH, Int.reduceToNat, id_eq, Int.reduceBEq, Int.reduceLE, Int.reduceLT, Nat.reduceAdd, Nat.reduceEqDiff, Nat.reduceLT, Nat.reduceLeDiff, Nat.reduceMul, Nat.reduceSub, reduceIte]
end Go.Proofs.YtokjpncehggojaaGreat.Flat
