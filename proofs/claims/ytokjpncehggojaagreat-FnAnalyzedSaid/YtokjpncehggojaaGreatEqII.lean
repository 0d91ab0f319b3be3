/-
IsIdle: both sides.
-/
import Derived.Test.YtokjpncehggojaaGreatEqV
import Derived.Test.YtokjpncehggojaaGreatEqWR
set_option linter.unusedVariables false
set_option linter.unusedSimpArgs false
set_option maxRecDepth 10000
namespace Go.Proofs.YtokjpncehggojaaGreat.Flat
noncomputable def diffAt (p q : Policy) (a o : Int) (s : List Cond) (i : Nat) : Bool := polB p a o s (valsOf s.length i) != polB q a o s (valsOf s.length i)
noncomputable def sameB (p q : Policy) (a o : Int) (s : List Cond) : Bool := !((List.range (2 ^ s.length)).any (diffAt p q a o s))
set_option maxHeartbeats 8000000 in
theorem r_impl_isIdleFor (k : Nat) (hk : 884940186000000 + 90 ≤ k) (p q : Policy) (hp0 : p.w ≤ 268435456) (hq0 : q.w ≤ 268435456) (a o : Int) :
    run E noExt k 33 [p.enc true, q.enc true, .int .i64 a, .int .i64 o] [] = some (.bool (compOk p a o && sameB p q a o (atomsOf p a o)), []) := by
  have hp : p.w ≤ 1099511627776 := by omega
  have hq : q.w ≤ 1099511627776 := by omega
  have hav := atomsOf_leaves p a o
  have hal := atomsOf_len p a o
  have hsc := scals_leaves hav
  have c1 := r_impl_CompileFor (k - 1) (by omega) p hp0 a o
  have c5 := r_impl_valuesOf (k - 1) (by omega) (atomsOf p a o).length
  have c6 := fun v => r_impl_PolicyBy (fl := true) (f2 := true) (f3 := true) (k - 1) (by omega) p a o (atomsOf p a o) v hp (by rw [wl_leaves hav]; omega)
  have c7 := fun v => r_impl_PolicyBy (fl := true) (f2 := true) (f3 := true) (k - 1) (by omega) q a o (atomsOf p a o) v hq (by rw [wl_leaves hav]; omega)
  have e6 : ∀ v, polBy (ruleBy a o (atomsOf p a o) v) p.rules = polB p a o (atomsOf p a o) v := fun _ => rfl
  have e7 : ∀ v, polBy (ruleBy a o (atomsOf p a o) v) q.rules = polB q a o (atomsOf p a o) v := fun _ => rfl
  simp -implicitDefEqProofs only [e6] at c6
  simp -implicitDefEqProofs only [e7] at c7
  clear e6 e7
  have hok : compOk p a o = true → (atomsOf p a o).length ≤ 6 := fun h => by unfold compOk at h; rw [Bool.and_eq_true] at h; exact of_decide_eq_true h.2
  obtain ⟨k, rfl⟩ : ∃ j, k = j + 1 := ⟨k - 1, by omega⟩
  rw [run_succ rfl rfl, body_eq (nt := 50) (fn := Go.Proofs.Tryz.f33) (by kernel_rfl) rfl rfl rfl rfl rfl rfl rfl rfl]
  simp -implicitDefEqProofs only [Nat.add_sub_cancel, enc_Policy] at c1 c5 c6 c7
  cases hA : compOk p a o with
  | false =>
    rw [hA, compFor_noI hA] at c1
    simp -implicitDefEqProofs only [W3, ↓D3, ↓DA, ↓DP, ↓DC, Go.Proofs.Tryz.f33, enc_Policy, c1, ifEv_bool, gate_bool, pick_bool, if_false, if_true, SH, Int.reduceToNat, id_eq, Int.reduceBEq, Int.reduceLE, Int.reduceLT, Nat.reduceAdd, Nat.reduceEqDiff, Nat.reduceLT, Nat.reduceLeDiff, Nat.reduceMul, Nat.reduceSub, reduceIte]
  | true =>
    rw [hA, compFor_yesI hA] at c1
    have hn := hok hA
    simp -implicitDefEqProofs only [Bool.true_and]
    generalize compD p a o = D at *
    generalize atomsOf p a o = at_ at *
    have hsl : ∀ t, evBin2 E.P .shl t (.int .i64 1) (.int .i64 ((at_.length : Nat) : Int)) = some (.int .i64 ((2 ^ at_.length : Nat) : Int)) := fun t => by
      have h1 : (((at_.length : Nat) : Int) < 0) = False := eq_false (by omega)
      simp -implicitDefEqProofs only [evBin2, evBin, evShift, h1, if_false, shl_small at_.length (by omega)]
    have hN : 2 ^ at_.length ≤ 64 := Nat.le_trans (Nat.pow_le_pow_right (by decide) hn) (by decide)
    have c5 := fun i hi => c5 i hn hi
    unfold sameB
    rw [← anyLoopG _ _ 0]
    generalize (2 : Nat) ^ at_.length = N at *
    by_cases hD : D.nodes = []
    · rw [hD] at c1
      simp -implicitDefEqProofs only [encR_nil] at c1
      simp -implicitDefEqProofs only [W4, ↓D4, ↓DA, ↓DP, ↓DC, Go.Proofs.Tryz.f33, enc_Policy, c1, hsc, hsl, ifEv_bool, gate_bool, pick_bool, if_false, if_true, SH, dedup, nodupB, idx, AV.rows, AV.rowss, AV.mapO, AV.mapOs, Int.reduceToNat, id_eq, Int.reduceBEq, Int.reduceLE, Int.reduceLT, Nat.reduceAdd, Nat.reduceEqDiff, Nat.reduceLT, Nat.reduceLeDiff, Nat.reduceMul, Nat.reduceSub, reduceIte]
      rw [ev_loop]
      refine loop_list (Q := fun (g : Bool) z => thenEnd E.P _ _ 0 (thenEv E _ _ _ _ _ (outOf 0 z)) = some (.bool (!g), [])) (List.range N) (anyStepG (diffAt p q a o at_)) (fun _ => false)
        (fun i _ => { sl := [(2, .int .i64 a), (3, .int .i64 o), (4, .ptr 0 0), (5, .ptr 1 0), (9, .ptr 2 0), (25, .int .i64 (N : Nat)), (26, .int .i64 (i : Nat))], bx := [(0, [.int .i64 p.version, .sl true (p.rules.map (Rule.enc true))]), (1, [.int .i64 q.version, .sl true (q.rules.map (Rule.enc true))]), (2, [.own 0 false 40 4 (at_.map (Cond.enc true)), .int .i64 D.atoms, .nils, .int .i64 D.root, .int .i64 p.version])], nx := 4, nt := 50 })
        (fun _ _ => True) () ?_ ?_ ?_ trivial ?_
      · intro _ _
        simp -implicitDefEqProofs only [W3, ↓D3, ↓DA, ↓DP, ↓DC, QX, List.length_range, SH, leaf_some, isNormal, Int.reduceToNat, id_eq, Int.reduceBEq, Int.reduceLE, Int.reduceLT, Nat.reduceAdd, Nat.reduceEqDiff, Nat.reduceLT, Nat.reduceLeDiff, Nat.reduceMul, Nat.reduceSub, reduceIte]
        repeat' (split <;> (rename_i h; (try simp -implicitDefEqProofs only [Bool.not_eq_true', Bool.not_eq_false', decide_eq_true_eq, decide_eq_false_iff_not] at h); (try simp -implicitDefEqProofs only [W3, ↓D3, ↓DA, ↓DP, ↓DC, QX, *, List.length_range, SH, leaf_some, isNormal, Int.reduceToNat, id_eq, Int.reduceBEq, Int.reduceLE, Int.reduceLT, Nat.reduceAdd, Nat.reduceEqDiff, Nat.reduceLT, Nat.reduceLeDiff, Nat.reduceMul, Nat.reduceSub, reduceIte])))
      · intro pre x r' _ hs' _
        obtain ⟨hxe, hpr⟩ := range_at hs'
        have h5 : ((pre.length : Int) < (N : Int)) = True := eq_true (by omega)
        have hw1 : IntKind.i64.wrap ((pre.length : Int) + 1) = ((pre.length + 1 : Nat) : Int) := by rw [IntWalk.i64_in _ (by omega)]; omega
        clear hs'
        subst hxe
        have c8 := c5 pre.length (by omega)
        have c9 := c6 (valsOf at_.length pre.length)
        have c10 := c7 (valsOf at_.length pre.length)
        have hst : anyStepG (diffAt p q a o at_) pre.length pre.length () = if (polB p a o at_ (valsOf at_.length pre.length) != polB q a o at_ (valsOf at_.length pre.length)) = true then .inl true else .inr () := rfl
        clear c1 c5 c6 c7
        generalize polB p a o at_ (valsOf at_.length pre.length) = e1 at *
        generalize polB q a o at_ (valsOf at_.length pre.length) = e2 at *
        cases e1 <;> cases e2 <;> simp -implicitDefEqProofs only [bne, beq_self_eq_true, beq_true, beq_false, Bool.not_true, Bool.not_false, Bool.false_eq_true, if_false, if_true] at hst
        all_goals
          simp -implicitDefEqProofs only [W3, ↓D3, ↓DA, ↓DP, ↓DC, QX, h5, hw1, c8, c9, c10, hst, scals_bools2, bne, if_false, if_true, plan_33_8, SH, keep_33_5, leaf_some, isNormal, Int.reduceToNat, id_eq, Int.reduceBEq, Int.reduceLE, Int.reduceLT, Nat.reduceAdd, Nat.reduceEqDiff, Nat.reduceLT, Nat.reduceLeDiff, Nat.reduceMul, Nat.reduceSub, reduceIte]
          repeat' (split <;> (rename_i h; (try simp -implicitDefEqProofs only [Bool.not_eq_true', Bool.not_eq_false', decide_eq_true_eq, decide_eq_false_iff_not] at h); (try simp -implicitDefEqProofs only [W3, ↓D3, ↓DA, ↓DP, ↓DC, QX, *, h5, hw1, c8, c9, c10, hst, scals_bools2, bne, if_false, if_true, plan_33_8, SH, keep_33_5, leaf_some, isNormal, Int.reduceToNat, id_eq, Int.reduceBEq, Int.reduceLE, Int.reduceLT, Nat.reduceAdd, Nat.reduceEqDiff, Nat.reduceLT, Nat.reduceLeDiff, Nat.reduceMul, Nat.reduceSub, reduceIte])))
      · simp; omega
      · simp -implicitDefEqProofs only [firstRegion]
        rw [keep_33_5]
        simp -implicitDefEqProofs only [W3, ↓D3, ↓DA, ↓DP, ↓DC, Int.reduceToNat, id_eq, Int.reduceBEq, Int.reduceLE, Int.reduceLT, SH, Nat.reduceAdd, Nat.reduceEqDiff, Nat.reduceLT, Nat.reduceLeDiff, Nat.reduceMul, Nat.reduceSub, reduceIte]
    · rw [encR_ne hD] at c1
      simp -implicitDefEqProofs only [W4, ↓D4, ↓DA, ↓DP, ↓DC, Go.Proofs.Tryz.f33, enc_Policy, c1, hsc, scals_Choice, hsl, ifEv_bool, gate_bool, pick_bool, if_false, if_true, SH, dedup, nodupB, idx, AV.rows, AV.rowss, AV.mapO, AV.mapOs, Int.reduceToNat, id_eq, Int.reduceBEq, Int.reduceLE, Int.reduceLT, Nat.reduceAdd, Nat.reduceEqDiff, Nat.reduceLT, Nat.reduceLeDiff, Nat.reduceMul, Nat.reduceSub, reduceIte]
      rw [ev_loop]
      refine loop_list (Q := fun (g : Bool) z => thenEnd E.P _ _ 0 (thenEv E _ _ _ _ _ (outOf 0 z)) = some (.bool (!g), [])) (List.range N) (anyStepG (diffAt p q a o at_)) (fun _ => false)
        (fun i _ => { sl := [(2, .int .i64 a), (3, .int .i64 o), (4, .ptr 0 0), (5, .ptr 1 0), (9, .ptr 2 0), (25, .int .i64 (N : Nat)), (26, .int .i64 (i : Nat))], bx := [(0, [.int .i64 p.version, .sl true (p.rules.map (Rule.enc true))]), (1, [.int .i64 q.version, .sl true (q.rules.map (Rule.enc true))]), (2, [.own 0 false 40 4 (at_.map (Cond.enc true)), .int .i64 D.atoms, .own 1 false 134 3 (D.nodes.map (Choice.enc true)), .int .i64 D.root, .int .i64 p.version])], nx := 5, nt := 50 })
        (fun _ _ => True) () ?_ ?_ ?_ trivial ?_
      · intro _ _
        simp -implicitDefEqProofs only [W3, ↓D3, ↓DA, ↓DP, ↓DC, QX, List.length_range, SH, leaf_some, isNormal, Int.reduceToNat, id_eq, Int.reduceBEq, Int.reduceLE, Int.reduceLT, Nat.reduceAdd, Nat.reduceEqDiff, Nat.reduceLT, Nat.reduceLeDiff, Nat.reduceMul, Nat.reduceSub, reduceIte]
        repeat' (split <;> (rename_i h; (try simp -implicitDefEqProofs only [Bool.not_eq_true', Bool.not_eq_false', decide_eq_true_eq, decide_eq_false_iff_not] at h); (try simp -implicitDefEqProofs only [W3, ↓D3, ↓DA, ↓DP, ↓DC, QX, *, List.length_range, SH, leaf_some, isNormal, Int.reduceToNat, id_eq, Int.reduceBEq, Int.reduceLE, Int.reduceLT, Nat.reduceAdd, Nat.reduceEqDiff, Nat.reduceLT, Nat.reduceLeDiff, Nat.reduceMul, Nat.reduceSub, reduceIte])))
      · intro pre x r' _ hs' _
        obtain ⟨hxe, hpr⟩ := range_at hs'
        have h5 : ((pre.length : Int) < (N : Int)) = True := eq_true (by omega)
        have hw1 : IntKind.i64.wrap ((pre.length : Int) + 1) = ((pre.length + 1 : Nat) : Int) := by rw [IntWalk.i64_in _ (by omega)]; omega
        clear hs'
        subst hxe
        have c8 := c5 pre.length (by omega)
        have c9 := c6 (valsOf at_.length pre.length)
        have c10 := c7 (valsOf at_.length pre.length)
        have hst : anyStepG (diffAt p q a o at_) pre.length pre.length () = if (polB p a o at_ (valsOf at_.length pre.length) != polB q a o at_ (valsOf at_.length pre.length)) = true then .inl true else .inr () := rfl
        clear c1 c5 c6 c7
        generalize polB p a o at_ (valsOf at_.length pre.length) = e1 at *
        generalize polB q a o at_ (valsOf at_.length pre.length) = e2 at *
        cases e1 <;> cases e2 <;> simp -implicitDefEqProofs only [bne, beq_self_eq_true, beq_true, beq_false, Bool.not_true, Bool.not_false, Bool.false_eq_true, if_false, if_true] at hst
        all_goals
          simp -implicitDefEqProofs only [W3, ↓D3, ↓DA, ↓DP, ↓DC, QX, h5, hw1, c8, c9, c10, hst, scals_bools2, bne, if_false, if_true, plan_33_8, SH, keep_33_5, leaf_some, isNormal, Int.reduceToNat, id_eq, Int.reduceBEq, Int.reduceLE, Int.reduceLT, Nat.reduceAdd, Nat.reduceEqDiff, Nat.reduceLT, Nat.reduceLeDiff, Nat.reduceMul, Nat.reduceSub, reduceIte]
          repeat' (split <;> (rename_i h; (try simp -implicitDefEqProofs only [Bool.not_eq_true', Bool.not_eq_false', decide_eq_true_eq, decide_eq_false_iff_not] at h); (try simp -implicitDefEqProofs only [W3, ↓D3, ↓DA, ↓DP, ↓DC, QX, *, h5, hw1, c8, c9, c10, hst, scals_bools2, bne, if_false, if_true, plan_33_8, SH, keep_33_5, leaf_some, isNormal, Int.reduceToNat, id_eq, Int.reduceBEq, Int.reduceLE, Int.reduceLT, Nat.reduceAdd, Nat.reduceEqDiff, Nat.reduceLT, Nat.reduceLeDiff, Nat.reduceMul, Nat.reduceSub, reduceIte])))
      · simp; omega
      · simp -implicitDefEqProofs only [firstRegion]
        rw [keep_33_5]
        simp -implicitDefEqProofs only [W3, ↓D3, ↓DA, ↓DP, ↓DC, Int.reduceToNat, id_eq, Int.reduceBEq, Int.reduceLE, Int.reduceLT, SH, Nat.reduceAdd, Nat.reduceEqDiff, Nat.reduceLT, Nat.reduceLeDiff, Nat.reduceMul, Nat.reduceSub, reduceIte]
noncomputable def idleAt (p q : Policy) (a o : Int) : Bool := decide ((atomsOf p a o).length ≤ 6) && sameB p q a o (atomsOf p a o)
noncomputable def isIdle (p : Policy) (i : Int) : Bool :=
  isPolicy p && (inR i 0 ((p.rules.length : Int) - 1) && !((List.range 6).any fun a => (List.range 10).any fun o => !(idleAt p ⟨p.version, dropR p.rules i.toNat⟩ (a : Nat) (40 + (o : Nat)))))
set_option maxHeartbeats 8000000 in
theorem r_impl_IsIdle (k : Nat) (hk : 884940186000000 + 100 ≤ k) (p : Policy) (hp0 : p.w ≤ 268435456) (i : Int) :
    run E noExt k 11 [p.enc true, .int .i64 i] [] = some (.bool (isIdle p i), []) := by
  have hp : p.w ≤ 1099511627776 := by omega
  have hw : wl Rule.w p.rules ≤ 1099511627776 := hp
  have hs1 := wl_length Rule.w p.rules
  have hs : p.rules.length ≤ 140737488355328 := by omega
  have c1 := r_impl_IsPolicy (fl := true) (k - 1) (by omega) p hp
  have c2 := r_impl_InRange (k - 1) (by omega) i 0 ((p.rules.length : Int) - 1)
  have hwr : IntKind.i64.wrap ((p.rules.length : Int) - 1) = (p.rules.length : Int) - 1 := IntWalk.i64_in _ (by omega)
  unfold isIdle
  obtain ⟨k, rfl⟩ : ∃ j, k = j + 1 := ⟨k - 1, by omega⟩
  rw [run_succ rfl rfl, body_eq (nt := 37) (fn := Go.Proofs.Tryz.f11) (by kernel_rfl) rfl rfl rfl rfl rfl rfl rfl rfl]
  simp -implicitDefEqProofs only [Nat.add_sub_cancel, enc_Policy] at c1 c2
  cases hP : isPolicy p with
  | false =>
    rw [hP] at c1
    simp -implicitDefEqProofs only [W3, ↓D3, ↓DA, ↓DP, ↓DC, Go.Proofs.Tryz.f11, enc_Policy, c1, c2, hwr, ifEv_bool, gate_bool, pick_bool, if_false, if_true, SH, Int.reduceToNat, id_eq, Int.reduceBEq, Int.reduceLE, Int.reduceLT, Nat.reduceAdd, Nat.reduceEqDiff, Nat.reduceLT, Nat.reduceLeDiff, Nat.reduceMul, Nat.reduceSub, reduceIte]
  | true =>
    rw [hP] at c1
    cases hI : inR i 0 ((p.rules.length : Int) - 1) with
    | false =>
      rw [hI] at c2
      simp -implicitDefEqProofs only [W3, ↓D3, ↓DA, ↓DP, ↓DC, Go.Proofs.Tryz.f11, enc_Policy, c1, c2, hwr, ifEv_bool, gate_bool, pick_bool, if_false, if_true, SH, Int.reduceToNat, id_eq, Int.reduceBEq, Int.reduceLE, Int.reduceLT, Nat.reduceAdd, Nat.reduceEqDiff, Nat.reduceLT, Nat.reduceLeDiff, Nat.reduceMul, Nat.reduceSub, reduceIte]
    | true =>
      rw [hI] at c2
      obtain ⟨n, rfl, hn⟩ : ∃ n : Nat, i = (n : Int) ∧ n < p.rules.length := by
        unfold inR at hI
        simp -implicitDefEqProofs only [Bool.and_eq_true, decide_eq_true_eq] at hI
        exact ⟨i.toNat, by omega, by omega⟩
      have c3 := r_impl_WithoutRule k (by omega) p hp n
      simp -implicitDefEqProofs only [Int.toNat_natCast, Bool.true_and]
      have hqw : (⟨p.version, dropR p.rules n⟩ : Policy).w ≤ 268435456 := by
        have := dropR_w p.rules n
        unfold Policy.w at hp0 ⊢
        simp only
        omega
      have c4 := fun a o => r_impl_isIdleFor k (by omega) p ⟨p.version, dropR p.rules n⟩ hp0 hqw a o
      have hbit : ∀ a o, (compOk p a o && sameB p ⟨p.version, dropR p.rules n⟩ a o (atomsOf p a o)) = idleAt p ⟨p.version, dropR p.rules n⟩ a o := fun a o => by unfold idleAt compOk; rw [hP, Bool.true_and]
      simp -implicitDefEqProofs only [hbit] at c4
      simp -implicitDefEqProofs only [Nat.add_sub_cancel, enc_Policy] at c3 c4
      clear hbit
      rw [← anyLoopG _ _ 0]
      generalize idleAt p ⟨p.version, dropR p.rules n⟩ = g at *
      generalize hPd : (fun a : Nat => (List.range 10).any fun o => !(g (a : Nat) (40 + (o : Nat)))) = P at *
      rcases Classical.em (dropR p.rules n = []) with hD | hD
      · rw [hD] at c3 c4
        simp -implicitDefEqProofs only [rowU_nil, List.map_nil] at c3 c4
        simp -implicitDefEqProofs only [W4, ↓D4, ↓DA, ↓DP, ↓DC, Go.Proofs.Tryz.f11, enc_Policy, c1, c2, c3, shuts_Rule, hwr, ifEv_bool, gate_bool, pick_bool, Bool.and_self, if_false, if_true, SH, dedup, nodupB, idx, AV.rows, AV.rowss, AV.mapO, AV.mapOs, Int.reduceToNat, id_eq, Int.reduceBEq, Int.reduceLE, Int.reduceLT, Nat.reduceAdd, Nat.reduceEqDiff, Nat.reduceLT, Nat.reduceLeDiff, Nat.reduceMul, Nat.reduceSub, reduceIte]
        rw [ev_loop]
        refine loop_list (Q := fun (g0 : Bool) z => thenEnd E.P _ _ 0 (thenEv E _ _ _ _ _ (outOf 0 z)) = some (.bool (!g0), [])) (List.range 6) (anyStepG P) (fun _ => false)
          (fun i _ => { sl := [(2, .ptr 0 0), (5, .ptr 1 0), (23, .int .i64 (i : Nat))], bx := [(0, [.int .i64 p.version, .sl true (p.rules.map (Rule.enc true))]), (1, [.int .i64 p.version, .nils])], nx := 2, nt := 37 })
          (fun _ _ => True) () ?_ ?_ ?_ trivial ?_
        · intro _ _
          rw [List.length_range]
          have n6 : ((6 : Nat) : Int) = 6 := rfl
          simp -implicitDefEqProofs only [W3, ↓D3, ↓DA, ↓DP, ↓DC, n6, leaf_some, isNormal, ifEv_bool, Int.reduceToNat, id_eq, Int.reduceBEq, Int.reduceLE, Int.reduceLT, SH, Nat.reduceAdd, Nat.reduceEqDiff, Nat.reduceLT, Nat.reduceLeDiff, Nat.reduceMul, Nat.reduceSub, reduceIte]
        · intro pre x r' _ hs' _
          obtain ⟨hxe, hpr⟩ := range_at hs'
          have h5 : ((pre.length : Int) < 6) = True := eq_true (by omega)
          have h6 : ((pre.length : Int) ≤ 5) = True := eq_true (by omega)
          have hw1 : IntKind.i64.wrap ((pre.length : Int) + 1) = ((pre.length + 1 : Nat) : Int) := by rw [IntWalk.i64_in _ (by omega)]; omega
          clear hs'
          subst hxe
          have hst : anyStepG P pre.length pre.length () = if P pre.length = true then .inl true else .inr () := rfl
          simp -implicitDefEqProofs only [W4, ↓D4, ↓DA, ↓DP, ↓DC, h5, h6, shuts_Rule, leaf_some, isNormal, ifEv_bool, SH, dedup, nodupB, idx, AV.rows, AV.rowss, AV.mapO, AV.mapOs, Int.reduceToNat, id_eq, Int.reduceBEq, Int.reduceLE, Int.reduceLT, Nat.reduceAdd, Nat.reduceEqDiff, Nat.reduceLT, Nat.reduceLeDiff, Nat.reduceMul, Nat.reduceSub, reduceIte]
          rw [ev_loop]
          refine loop_list (Q := fun (g1 : Bool) z => g1 = P pre.length → Leaf (thenEv E _ _ _ _ _ (outOf 1 (outOf 2 z))) _) (List.range 10) (anyStepG fun o => !(g (pre.length : Nat) (40 + (o : Nat)))) (fun _ => false)
            (fun j _ => { sl := [(2, .ptr 0 0), (5, .ptr 1 0), (6, .int .i64 (pre.length : Nat)), (7, .int .i64 (40 + (j : Nat) : Int)), (23, .int .i64 (pre.length : Nat))], bx := [(0, [.int .i64 p.version, .sl true (p.rules.map (Rule.enc true))]), (1, [.int .i64 p.version, .nils])], nx := 2, nt := 37 })
            (fun _ _ => True) () ?_ ?_ ?_ trivial ?_ ((anyLoopG _ _ 0).trans (by rw [← hPd]))
          · intro _ _
            rw [List.length_range]
            have n10 : ((10 : Nat) : Int) = 10 := rfl
            have n50 : (40 + 10 : Int) = 50 := rfl
            simp -implicitDefEqProofs only [W4, ↓D4, ↓DA, ↓DP, ↓DC, n10, n50, leaf_some, isNormal, ifEv_bool, Int.reduceToNat, id_eq, Int.reduceBEq, Int.reduceLE, Int.reduceLT, SH, dedup, nodupB, idx, AV.rows, AV.rowss, AV.mapO, AV.mapOs, Nat.reduceAdd, Nat.reduceEqDiff, Nat.reduceLT, Nat.reduceLeDiff, Nat.reduceMul, Nat.reduceSub, reduceIte]
            intro he
            rw [← he, if_neg (by simp)] at hst
            clear he
            simp -implicitDefEqProofs only [W3, ↓D3, ↓DA, ↓DP, ↓DC, QX, hw1, hst, SH, keep_11_5, leaf_some, isNormal, Int.reduceToNat, id_eq, Int.reduceBEq, Int.reduceLE, Int.reduceLT, Nat.reduceAdd, Nat.reduceEqDiff, Nat.reduceLT, Nat.reduceLeDiff, Nat.reduceMul, Nat.reduceSub, reduceIte]
            repeat' (split <;> (rename_i h; (try simp -implicitDefEqProofs only [Bool.not_eq_true', Bool.not_eq_false', decide_eq_true_eq, decide_eq_false_iff_not] at h); (try simp -implicitDefEqProofs only [W3, ↓D3, ↓DA, ↓DP, ↓DC, QX, *, hw1, hst, SH, keep_11_5, leaf_some, isNormal, Int.reduceToNat, id_eq, Int.reduceBEq, Int.reduceLE, Int.reduceLT, Nat.reduceAdd, Nat.reduceEqDiff, Nat.reduceLT, Nat.reduceLeDiff, Nat.reduceMul, Nat.reduceSub, reduceIte])))
          · intro pre2 y r2 _ hs2 _
            obtain ⟨hye, hpr2⟩ := range_at hs2
            have h7 : ((40 + (pre2.length : Int)) < 50) = True := eq_true (by omega)
            have h8 : ((40 + (pre2.length : Int)) ≤ 49) = True := eq_true (by omega)
            have hw2 : IntKind.i64.wrap (40 + (pre2.length : Int) + 1) = 40 + ((pre2.length + 1 : Nat) : Int) := by rw [IntWalk.i64_in _ (by omega)]; omega
            clear hs2
            subst hye
            have d4 := c4 (pre.length : Nat) (40 + (pre2.length : Nat))
            have hst2 : anyStepG (fun o => !(g (pre.length : Nat) (40 + (o : Nat)))) pre2.length pre2.length () = if (!(g (pre.length : Nat) (40 + (pre2.length : Nat)))) = true then .inl true else .inr () := rfl
            clear c1 c2 c3 c4
            generalize g (pre.length : Nat) (40 + (pre2.length : Nat)) = e at *
            cases e
            · simp -implicitDefEqProofs only [Bool.not_false, if_true] at hst2
              simp -implicitDefEqProofs only [W4, ↓D4, ↓DA, ↓DP, ↓DC, h7, h8, d4, hst2, shuts_Rule, leaf_some, isNormal, ifEv_bool, SH, dedup, nodupB, idx, AV.rows, AV.rowss, AV.mapO, AV.mapOs, Int.reduceToNat, id_eq, Int.reduceBEq, Int.reduceLE, Int.reduceLT, Nat.reduceAdd, Nat.reduceEqDiff, Nat.reduceLT, Nat.reduceLeDiff, Nat.reduceMul, Nat.reduceSub, reduceIte]
              intro he
              rw [← he, if_pos rfl] at hst
              clear he
              simp -implicitDefEqProofs only [W4, ↓D4, ↓DA, ↓DP, ↓DC, hst, leaf_some, isNormal, SH, dedup, nodupB, idx, AV.rows, AV.rowss, AV.mapO, AV.mapOs, Int.reduceToNat, id_eq, Int.reduceBEq, Int.reduceLE, Int.reduceLT, Nat.reduceAdd, Nat.reduceEqDiff, Nat.reduceLT, Nat.reduceLeDiff, Nat.reduceMul, Nat.reduceSub, reduceIte]
            · simp -implicitDefEqProofs only [Bool.not_true, Bool.false_eq_true, if_false] at hst2
              simp -implicitDefEqProofs only [W3, ↓D3, ↓DA, ↓DP, ↓DC, QX, h7, h8, hw2, d4, hst2, shuts_Rule, SH, keep_11_8, leaf_some, isNormal, Int.reduceToNat, id_eq, Int.reduceBEq, Int.reduceLE, Int.reduceLT, Nat.reduceAdd, Nat.reduceEqDiff, Nat.reduceLT, Nat.reduceLeDiff, Nat.reduceMul, Nat.reduceSub, reduceIte]
              repeat' (split <;> (rename_i h; (try simp -implicitDefEqProofs only [Bool.not_eq_true', Bool.not_eq_false', decide_eq_true_eq, decide_eq_false_iff_not] at h); (try simp -implicitDefEqProofs only [W3, ↓D3, ↓DA, ↓DP, ↓DC, QX, *, h7, h8, hw2, d4, hst2, shuts_Rule, SH, keep_11_8, leaf_some, isNormal, Int.reduceToNat, id_eq, Int.reduceBEq, Int.reduceLE, Int.reduceLT, Nat.reduceAdd, Nat.reduceEqDiff, Nat.reduceLT, Nat.reduceLeDiff, Nat.reduceMul, Nat.reduceSub, reduceIte])))
          · simp; omega
          · simp -implicitDefEqProofs only [firstRegion]
            rw [keep_11_8]
            have hz : (40 : Int) + 0 = 40 := rfl
            simp -implicitDefEqProofs only [W3, ↓D3, ↓DA, ↓DP, ↓DC, hz, Int.reduceToNat, id_eq, Int.reduceBEq, Int.reduceLE, Int.reduceLT, SH, Nat.reduceAdd, Nat.reduceEqDiff, Nat.reduceLT, Nat.reduceLeDiff, Nat.reduceMul, Nat.reduceSub, reduceIte]
        · simp; omega
        · simp -implicitDefEqProofs only [firstRegion]
          rw [keep_11_5]
          simp -implicitDefEqProofs only [W3, ↓D3, ↓DA, ↓DP, ↓DC, Int.reduceToNat, id_eq, Int.reduceBEq, Int.reduceLE, Int.reduceLT, SH, Nat.reduceAdd, Nat.reduceEqDiff, Nat.reduceLT, Nat.reduceLeDiff, Nat.reduceMul, Nat.reduceSub, reduceIte]
      · rw [rowU_ne hD] at c3
        simp -implicitDefEqProofs only [W4, ↓D4, ↓DA, ↓DP, ↓DC, Go.Proofs.Tryz.f11, enc_Policy, c1, c2, c3, shuts_Rule, hwr, ifEv_bool, gate_bool, pick_bool, Bool.and_self, if_false, if_true, SH, dedup, nodupB, idx, AV.rows, AV.rowss, AV.mapO, AV.mapOs, Int.reduceToNat, id_eq, Int.reduceBEq, Int.reduceLE, Int.reduceLT, Nat.reduceAdd, Nat.reduceEqDiff, Nat.reduceLT, Nat.reduceLeDiff, Nat.reduceMul, Nat.reduceSub, reduceIte]
        rw [ev_loop]
        refine loop_list (Q := fun (g0 : Bool) z => thenEnd E.P _ _ 0 (thenEv E _ _ _ _ _ (outOf 0 z)) = some (.bool (!g0), [])) (List.range 6) (anyStepG P) (fun _ => false)
          (fun i _ => { sl := [(2, .ptr 0 0), (5, .ptr 1 0), (23, .int .i64 (i : Nat))], bx := [(0, [.int .i64 p.version, .sl true (p.rules.map (Rule.enc true))]), (1, [.int .i64 p.version, .own 0 false 42 7 ((dropR p.rules n).map (Rule.enc true))])], nx := 3, nt := 37 })
          (fun _ _ => True) () ?_ ?_ ?_ trivial ?_
        · intro _ _
          rw [List.length_range]
          have n6 : ((6 : Nat) : Int) = 6 := rfl
          simp -implicitDefEqProofs only [W3, ↓D3, ↓DA, ↓DP, ↓DC, n6, leaf_some, isNormal, ifEv_bool, Int.reduceToNat, id_eq, Int.reduceBEq, Int.reduceLE, Int.reduceLT, SH, Nat.reduceAdd, Nat.reduceEqDiff, Nat.reduceLT, Nat.reduceLeDiff, Nat.reduceMul, Nat.reduceSub, reduceIte]
        · intro pre x r' _ hs' _
          obtain ⟨hxe, hpr⟩ := range_at hs'
          have h5 : ((pre.length : Int) < 6) = True := eq_true (by omega)
          have h6 : ((pre.length : Int) ≤ 5) = True := eq_true (by omega)
          have hw1 : IntKind.i64.wrap ((pre.length : Int) + 1) = ((pre.length + 1 : Nat) : Int) := by rw [IntWalk.i64_in _ (by omega)]; omega
          clear hs'
          subst hxe
          have hst : anyStepG P pre.length pre.length () = if P pre.length = true then .inl true else .inr () := rfl
          simp -implicitDefEqProofs only [W4, ↓D4, ↓DA, ↓DP, ↓DC, h5, h6, shuts_Rule, leaf_some, isNormal, ifEv_bool, SH, dedup, nodupB, idx, AV.rows, AV.rowss, AV.mapO, AV.mapOs, Int.reduceToNat, id_eq, Int.reduceBEq, Int.reduceLE, Int.reduceLT, Nat.reduceAdd, Nat.reduceEqDiff, Nat.reduceLT, Nat.reduceLeDiff, Nat.reduceMul, Nat.reduceSub, reduceIte]
          rw [ev_loop]
          refine loop_list (Q := fun (g1 : Bool) z => g1 = P pre.length → Leaf (thenEv E _ _ _ _ _ (outOf 1 (outOf 2 z))) _) (List.range 10) (anyStepG fun o => !(g (pre.length : Nat) (40 + (o : Nat)))) (fun _ => false)
            (fun j _ => { sl := [(2, .ptr 0 0), (5, .ptr 1 0), (6, .int .i64 (pre.length : Nat)), (7, .int .i64 (40 + (j : Nat) : Int)), (23, .int .i64 (pre.length : Nat))], bx := [(0, [.int .i64 p.version, .sl true (p.rules.map (Rule.enc true))]), (1, [.int .i64 p.version, .own 0 false 42 7 ((dropR p.rules n).map (Rule.enc true))])], nx := 3, nt := 37 })
            (fun _ _ => True) () ?_ ?_ ?_ trivial ?_ ((anyLoopG _ _ 0).trans (by rw [← hPd]))
          · intro _ _
            rw [List.length_range]
            have n10 : ((10 : Nat) : Int) = 10 := rfl
            have n50 : (40 + 10 : Int) = 50 := rfl
            simp -implicitDefEqProofs only [W4, ↓D4, ↓DA, ↓DP, ↓DC, n10, n50, leaf_some, isNormal, ifEv_bool, Int.reduceToNat, id_eq, Int.reduceBEq, Int.reduceLE, Int.reduceLT, SH, dedup, nodupB, idx, AV.rows, AV.rowss, AV.mapO, AV.mapOs, Nat.reduceAdd, Nat.reduceEqDiff, Nat.reduceLT, Nat.reduceLeDiff, Nat.reduceMul, Nat.reduceSub, reduceIte]
            intro he
            rw [← he, if_neg (by simp)] at hst
            clear he
            simp -implicitDefEqProofs only [W3, ↓D3, ↓DA, ↓DP, ↓DC, QX, hw1, hst, SH, keep_11_5, leaf_some, isNormal, Int.reduceToNat, id_eq, Int.reduceBEq, Int.reduceLE, Int.reduceLT, Nat.reduceAdd, Nat.reduceEqDiff, Nat.reduceLT, Nat.reduceLeDiff, Nat.reduceMul, Nat.reduceSub, reduceIte]
            repeat' (split <;> (rename_i h; (try simp -implicitDefEqProofs only [Bool.not_eq_true', Bool.not_eq_false', decide_eq_true_eq, decide_eq_false_iff_not] at h); (try simp -implicitDefEqProofs only [W3, ↓D3, ↓DA, ↓DP, ↓DC, QX, *, hw1, hst, SH, keep_11_5, leaf_some, isNormal, Int.reduceToNat, id_eq, Int.reduceBEq, Int.reduceLE, Int.reduceLT, Nat.reduceAdd, Nat.reduceEqDiff, Nat.reduceLT, Nat.reduceLeDiff, Nat.reduceMul, Nat.reduceSub, reduceIte])))
          · intro pre2 y r2 _ hs2 _
            obtain ⟨hye, hpr2⟩ := range_at hs2
            have h7 : ((40 + (pre2.length : Int)) < 50) = True := eq_true (by omega)
            have h8 : ((40 + (pre2.length : Int)) ≤ 49) = True := eq_true (by omega)
            have hw2 : IntKind.i64.wrap (40 + (pre2.length : Int) + 1) = 40 + ((pre2.length + 1 : Nat) : Int) := by rw [IntWalk.i64_in _ (by omega)]; omega
            clear hs2
            subst hye
            have d4 := c4 (pre.length : Nat) (40 + (pre2.length : Nat))
            have hst2 : anyStepG (fun o => !(g (pre.length : Nat) (40 + (o : Nat)))) pre2.length pre2.length () = if (!(g (pre.length : Nat) (40 + (pre2.length : Nat)))) = true then .inl true else .inr () := rfl
            clear c1 c2 c3 c4
            generalize g (pre.length : Nat) (40 + (pre2.length : Nat)) = e at *
            cases e
            · simp -implicitDefEqProofs only [Bool.not_false, if_true] at hst2
              simp -implicitDefEqProofs only [W4, ↓D4, ↓DA, ↓DP, ↓DC, h7, h8, d4, hst2, shuts_Rule, leaf_some, isNormal, ifEv_bool, SH, dedup, nodupB, idx, AV.rows, AV.rowss, AV.mapO, AV.mapOs, Int.reduceToNat, id_eq, Int.reduceBEq, Int.reduceLE, Int.reduceLT, Nat.reduceAdd, Nat.reduceEqDiff, Nat.reduceLT, Nat.reduceLeDiff, Nat.reduceMul, Nat.reduceSub, reduceIte]
              intro he
              rw [← he, if_pos rfl] at hst
              clear he
              simp -implicitDefEqProofs only [W4, ↓D4, ↓DA, ↓DP, ↓DC, hst, leaf_some, isNormal, SH, dedup, nodupB, idx, AV.rows, AV.rowss, AV.mapO, AV.mapOs, Int.reduceToNat, id_eq, Int.reduceBEq, Int.reduceLE, Int.reduceLT, Nat.reduceAdd, Nat.reduceEqDiff, Nat.reduceLT, Nat.reduceLeDiff, Nat.reduceMul, Nat.reduceSub, reduceIte]
            · simp -implicitDefEqProofs only [Bool.not_true, Bool.false_eq_true, if_false] at hst2
              simp -implicitDefEqProofs only [W3, ↓D3, ↓DA, ↓DP, ↓DC, QX, h7, h8, hw2, d4, hst2, shuts_Rule, SH, keep_11_8, leaf_some, isNormal, Int.reduceToNat, id_eq, Int.reduceBEq, Int.reduceLE, Int.reduceLT, Nat.reduceAdd, Nat.reduceEqDiff, Nat.reduceLT, Nat.reduceLeDiff, Nat.reduceMul, Nat.reduceSub, reduceIte]
              repeat' (split <;> (rename_i h; (try simp -implicitDefEqProofs only [Bool.not_eq_true', Bool.not_eq_false', decide_eq_true_eq, decide_eq_false_iff_not] at h); (try simp -implicitDefEqProofs only [W3, ↓D3, ↓DA, ↓DP, ↓DC, QX, *, h7, h8, hw2, d4, hst2, shuts_Rule, SH, keep_11_8, leaf_some, isNormal, Int.reduceToNat, id_eq, Int.reduceBEq, Int.reduceLE, Int.reduceLT, Nat.reduceAdd, Nat.reduceEqDiff, Nat.reduceLT, Nat.reduceLeDiff, Nat.reduceMul, Nat.reduceSub, reduceIte])))
          · simp; omega
          · simp -implicitDefEqProofs only [firstRegion]
            rw [keep_11_8]
            have hz : (40 : Int) + 0 = 40 := rfl
            simp -implicitDefEqProofs only [W3, ↓D3, ↓DA, ↓DP, ↓DC, hz, Int.reduceToNat, id_eq, Int.reduceBEq, Int.reduceLE, Int.reduceLT, SH, Nat.reduceAdd, Nat.reduceEqDiff, Nat.reduceLT, Nat.reduceLeDiff, Nat.reduceMul, Nat.reduceSub, reduceIte]
        · simp; omega
        · simp -implicitDefEqProofs only [firstRegion]
          rw [keep_11_5]
          simp -implicitDefEqProofs only [W3, ↓D3, ↓DA, ↓DP, ↓DC, Int.reduceToNat, id_eq, Int.reduceBEq, Int.reduceLE, Int.reduceLT, SH, Nat.reduceAdd, Nat.reduceEqDiff, Nat.reduceLT, Nat.reduceLeDiff, Nat.reduceMul, Nat.reduceSub, reduceIte]
end Go.Proofs.YtokjpncehggojaaGreat.Flat
