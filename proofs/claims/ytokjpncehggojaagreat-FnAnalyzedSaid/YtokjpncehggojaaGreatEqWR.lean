/-
WithoutRule: both sides, read.
-/
import Derived.Test.YtokjpncehggojaaGreatEqCLC
set_option linter.unusedVariables false
set_option linter.unusedSimpArgs false
set_option maxRecDepth 10000
namespace Go.Proofs.YtokjpncehggojaaGreat.Flat
theorem r_impl_copyRulesF {fl : Bool} (k : Nat) (hk : 290271069732864 + 4 ≤ k) (s : List Rule) (hw : wl Rule.w s ≤ 1099511627776) :
    run E noExt k 37 [.sl fl (s.map (Rule.enc fl))] [] = some (.own 0 false 42 7 (s.map (Rule.enc true)), []) := by
  have hs1 := wl_length Rule.w s
  have hs : s.length ≤ 140737488355328 := by omega
  have cc := fun (c : Rule) (hc : c ∈ s) => r_impl_copyCond (fl := fl) (k - 1) (by omega) c.cond (by have := wl_mem (w := Rule.w) hc; have hw : c.w = c.cond.w := rfl; omega)
  unfold Cond.copyAV at cc
  obtain ⟨k, rfl⟩ : ∃ j, k = j + 1 := ⟨k - 1, by omega⟩
  rw [run_succ rfl rfl, body_eq (nt := 23) (fn := Go.Proofs.Tryz.f37) (by kernel_rfl) rfl rfl rfl rfl rfl rfl rfl rfl]
  simp -implicitDefEqProofs only [Nat.add_sub_cancel, enc_Cond] at cc
  simp -implicitDefEqProofs only [W4, ↓D4, ↓DA, ↓DP, ↓DC, Go.Proofs.Tryz.f37, SH, dedup, nodupB, idx, AV.rows, AV.rowss, AV.mapO, AV.mapOs, Int.reduceToNat, id_eq, Int.reduceBEq, Int.reduceLE, Int.reduceLT, Nat.reduceAdd, Nat.reduceEqDiff, Nat.reduceLT, Nat.reduceLeDiff, Nat.reduceMul, Nat.reduceSub, reduceIte]
  rw [ev_loop]
  refine loop_list (Q := fun (_ : Unit) z => thenEnd E.P [] _ 0 (thenEv E _ _ _ _ _ (outOf 0 z)) = some (.own 0 false 42 7 (s.map (Rule.enc true)), [])) s (fun _ _ _ => .inr ()) id
    (fun i _ => { sl := [(3, .own 0 false 42 7 ((s.take i).map (Rule.enc true))), (7, .sl fl (s.map (Rule.enc fl))), (8, .int .i64 (s.length : Nat)), (9, .int .i64 (i : Nat))], bx := [], nx := 1, nt := 23 }) (fun _ _ => True) () ?_ ?_ ?_ trivial ?_
  · intro _ _
    rw [List.take_length]
    simp -implicitDefEqProofs only [W3, ↓D3, ↓DA, ↓DP, ↓DC, QX, SH, leaf_some, isNormal, Int.reduceToNat, id_eq, Int.reduceBEq, Int.reduceLE, Int.reduceLT, Nat.reduceAdd, Nat.reduceEqDiff, Nat.reduceLT, Nat.reduceLeDiff, Nat.reduceMul, Nat.reduceSub, reduceIte]
    repeat' (split <;> (rename_i h; (try simp -implicitDefEqProofs only [Bool.not_eq_true', Bool.not_eq_false', decide_eq_true_eq, decide_eq_false_iff_not] at h); (try simp -implicitDefEqProofs only [W3, ↓D3, ↓DA, ↓DP, ↓DC, QX, *, SH, leaf_some, isNormal, Int.reduceToNat, id_eq, Int.reduceBEq, Int.reduceLE, Int.reduceLT, Nat.reduceAdd, Nat.reduceEqDiff, Nat.reduceLT, Nat.reduceLeDiff, Nat.reduceMul, Nat.reduceSub, reduceIte])))
  · intro pre c r _ hs' _
    have hx := (at_row hs' hs).1; have hc := (at_row hs' hs).2.1; have hlt := (at_row hs' hs).2.2.1; have hw1 := (at_row hs' hs).2.2.2.1; have hl9 := (at_row hs' hs).2.2.2.2
    obtain ⟨ht1, ht2⟩ := take_row hs'
    have hpre : pre.length + 1 ≤ s.length := by omega
    clear hs'
    have c2 := cc c hc
    have hm1 : (pre.length + 1) * 72 ≤ 140737488355328 := by omega
    have hm2 : pre.length + 1 ≤ 9223372036854775807 := by omega
    have hm9 : pre.length ≤ 9223372036854775806 := by omega
    have hsc := tscals_N c.cond.args
    rw [ht1, ht2, List.map_append]
    have hel : [c].map (Rule.enc true) = [.agg [.int .i64 c.effect, .int .i64 c.action, .int .i64 c.object, .int .i64 c.cond.op, .int .i64 c.cond.a, .int .i64 c.cond.b, .sl true (c.cond.args.map (Cond.enc true))]] := rfl
    have hpl : plains [AV.agg [.int .i64 c.effect, .int .i64 c.action, .int .i64 c.object, .int .i64 c.cond.op, .int .i64 c.cond.a, .int .i64 c.cond.b, .sl true (c.cond.args.map (Cond.enc true))]] = true := rfl
    rw [hel]
    rcases Classical.em (c.cond.args.map Cond.tencN = []) with h2 | h2
    · have h3 : c.cond.args.map (Cond.enc true) = [] := by cases hx : c.cond.args with | nil => rfl | cons c r => rw [hx] at h2; simp at h2
      rw [h2] at c2
      rw [h3] at hpl
      rw [h3]
      simp -implicitDefEqProofs only [rowN_nil] at c2
      simp -implicitDefEqProofs only [W3, ↓D3, ↓DA, ↓DP, ↓DC, QX, enc_Rule, hx, hlt, hw1, c2, hpl, hm1, hm2, hm9, SH, keep_37_3, leaf_some, isNormal, Int.reduceToNat, id_eq, Int.reduceBEq, Int.reduceLE, Int.reduceLT, Nat.reduceAdd, Nat.reduceEqDiff, Nat.reduceLT, Nat.reduceLeDiff, Nat.reduceMul, Nat.reduceSub, reduceIte]
      repeat' (split <;> (rename_i h; (try simp -implicitDefEqProofs only [Bool.not_eq_true', Bool.not_eq_false', decide_eq_true_eq, decide_eq_false_iff_not] at h); (try simp -implicitDefEqProofs only [W3, ↓D3, ↓DA, ↓DP, ↓DC, QX, *, enc_Rule, hx, hlt, hw1, c2, hpl, hm1, hm2, hm9, SH, keep_37_3, leaf_some, isNormal, Int.reduceToNat, id_eq, Int.reduceBEq, Int.reduceLE, Int.reduceLT, Nat.reduceAdd, Nat.reduceEqDiff, Nat.reduceLT, Nat.reduceLeDiff, Nat.reduceMul, Nat.reduceSub, reduceIte])))
      try trace_state
    · simp -implicitDefEqProofs only [rowN_ne h2] at c2
      simp -implicitDefEqProofs only [W3, ↓D3, ↓DA, ↓DP, ↓DC, QX, enc_Rule, hx, hlt, hw1, c2, hsc, hpl, tshuts_N, hm1, hm2, hm9, SH, keep_37_3, leaf_some, isNormal, Int.reduceToNat, id_eq, Int.reduceBEq, Int.reduceLE, Int.reduceLT, Nat.reduceAdd, Nat.reduceEqDiff, Nat.reduceLT, Nat.reduceLeDiff, Nat.reduceMul, Nat.reduceSub, reduceIte]
      repeat' (split <;> (rename_i h; (try simp -implicitDefEqProofs only [Bool.not_eq_true', Bool.not_eq_false', decide_eq_true_eq, decide_eq_false_iff_not] at h); (try simp -implicitDefEqProofs only [W3, ↓D3, ↓DA, ↓DP, ↓DC, QX, *, enc_Rule, hx, hlt, hw1, c2, hsc, hpl, tshuts_N, hm1, hm2, hm9, SH, keep_37_3, leaf_some, isNormal, Int.reduceToNat, id_eq, Int.reduceBEq, Int.reduceLE, Int.reduceLT, Nat.reduceAdd, Nat.reduceEqDiff, Nat.reduceLT, Nat.reduceLeDiff, Nat.reduceMul, Nat.reduceSub, reduceIte])))
      try trace_state
  · omega
  · simp -implicitDefEqProofs only [firstRegion]
    rw [keep_37_3]
    simp -implicitDefEqProofs only [W3, ↓D3, ↓DA, ↓DP, ↓DC, Int.reduceToNat, id_eq, Int.reduceBEq, Int.reduceLE, Int.reduceLT, SH, Nat.reduceAdd, Nat.reduceEqDiff, Nat.reduceLT, Nat.reduceLeDiff, Nat.reduceMul, Nat.reduceSub, reduceIte]
def dropR (s : List Rule) (i : Nat) : List Rule := s.take i ++ s.drop (i + 1)
def dropStep (i : Int) (k : Nat) (r : Rule) (b : List Rule) : Sum (List Rule) (List Rule) := .inr (if (!((k : Int) == i)) = true then b ++ [r] else b)
theorem dropLoop (i : Nat) : ∀ (s : List Rule) (k : Nat) (b : List Rule), k ≤ i → loopL (dropStep (i : Int)) id k s b = b ++ dropR s (i - k)
  | [], k, b, _ => by simp [loopL, dropR]
  | r :: s, k, b, h => by
    simp -implicitDefEqProofs only [loopL, dropStep]
    by_cases e : k = i
    · subst e
      have hh : ((k : Int) == (k : Int)) = true := by simp
      simp -implicitDefEqProofs only [hh, Bool.not_true, Bool.false_eq_true, if_false]
      have key : ∀ (s : List Rule) (j : Nat) (b : List Rule), k < j → loopL (dropStep (k : Int)) id j s b = b ++ s := by
        intro s
        induction s with
        | nil => intro j b _; simp [loopL]
        | cons x t ih =>
          intro j b hj
          have hne : ((j : Int) == (k : Int)) = false := by simp; omega
          simp -implicitDefEqProofs only [loopL, dropStep, hne, Bool.not_false, if_true]
          rw [ih (j + 1) _ (by omega)]
          simp
      rw [key s (k + 1) b (by omega), Nat.sub_self]
      simp [dropR]
    · have hne : ((k : Int) == (i : Int)) = false := by simp; omega
      simp -implicitDefEqProofs only [hne, Bool.not_false, if_true]
      rw [dropLoop i s (k + 1) _ (by omega)]
      have h1 : i - k = (i - (k + 1)) + 1 := by omega
      rw [h1]
      simp [dropR]
theorem dropR_mem {s : List Rule} {i : Nat} {r : Rule} (h : r ∈ dropR s i) : r ∈ s := by
  unfold dropR at h
  rcases List.mem_append.1 h with h | h
  · exact List.mem_of_mem_take h
  · exact List.mem_of_mem_drop h
theorem dropR_w (s : List Rule) (i : Nat) : wl Rule.w (dropR s i) ≤ wl Rule.w s := by
  have h1 : wl Rule.w s = wl Rule.w (s.take (i + 1)) + wl Rule.w (s.drop (i + 1)) := by rw [← wl_append, List.take_append_drop]
  have h2 : s.take i ++ (s.take (i + 1)).drop i = s.take (i + 1) := by
    have := List.take_append_drop i (s.take (i + 1))
    rwa [List.take_take, Nat.min_eq_left (by omega)] at this
  have h3 := congrArg (wl Rule.w) h2
  rw [wl_append] at h3
  unfold dropR
  rw [wl_append]
  omega
def rowU (id : Nat) : List Rule → AV
  | [] => .nils
  | r :: s => .own id false 42 7 ((r :: s).map (Rule.enc true))
theorem rowU_nil {id : Nat} : rowU id [] = .nils := rfl
theorem rowU_ne {id : Nat} {l : List Rule} (h : l ≠ []) : rowU id l = .own id false 42 7 (l.map (Rule.enc true)) := by cases l with | nil => exact absurd rfl h | cons => rfl
theorem r_impl_WithoutRule (k : Nat) (hk : 290271069732864 + 8 ≤ k) (p : Policy) (hp : p.w ≤ 1099511627776) (i : Nat) :
    run E noExt k 14 [p.enc true, .int .i64 (i : Nat)] [] = some (.agg [.int .i64 p.version, rowU 0 (dropR p.rules i)], []) := by
  have hw : wl Rule.w p.rules ≤ 1099511627776 := hp
  have hs1 := wl_length Rule.w p.rules
  have hs : p.rules.length ≤ 140737488355328 := by omega
  have c1 := r_impl_copyRulesF (fl := true) (k - 1) (by omega) p.rules hw
  have hL := dropLoop i p.rules 0 [] (by omega)
  rw [Nat.sub_zero, List.nil_append] at hL
  obtain ⟨k, rfl⟩ : ∃ j, k = j + 1 := ⟨k - 1, by omega⟩
  rw [run_succ rfl rfl, body_eq (nt := 31) (fn := Go.Proofs.Tryz.f14) (by kernel_rfl) rfl rfl rfl rfl rfl rfl rfl rfl]
  simp -implicitDefEqProofs only [Nat.add_sub_cancel] at c1
  simp -implicitDefEqProofs only [W4, ↓D4, ↓DA, ↓DP, ↓DC, Go.Proofs.Tryz.f14, enc_Policy, c1, SH, dedup, nodupB, idx, AV.rows, AV.rowss, AV.mapO, AV.mapOs, Int.reduceToNat, id_eq, Int.reduceBEq, Int.reduceLE, Int.reduceLT, Nat.reduceAdd, Nat.reduceEqDiff, Nat.reduceLT, Nat.reduceLeDiff, Nat.reduceMul, Nat.reduceSub, reduceIte]
  rw [ev_loop]
  refine Eq.trans (loop_list (Q := fun (g : List Rule) z => thenEnd E.P [] _ 0 (thenEv E _ _ _ _ _ (outOf 0 z)) = some (.agg [.int .i64 p.version, rowU 0 g], [])) p.rules (dropStep (i : Int)) id
    (fun j b => { sl := [(1, .int .i64 (i : Nat)), (4, .ptr 0 0), (5, .ptr 1 0), (13, .own 0 false 42 7 (p.rules.map (Rule.enc true))), (14, .int .i64 (p.rules.length : Nat)), (15, .int .i64 (j : Nat))], bx := [(0, [.int .i64 0, .nils]), (1, [.int .i64 p.version, rowU 1 b])], nx := 3 + (rowU 1 b).rows.length, nt := 31 })
    (fun j b => b.length ≤ j) [] ?_ ?_ (by omega) (by simp) ?_) ?_
  · intro b hb
    rcases Classical.em (b = []) with h1 | h1
    · subst h1
      simp -implicitDefEqProofs only [rowU_nil]
      simp -implicitDefEqProofs only [W3, ↓D3, ↓DA, ↓DP, ↓DC, QX, rowU_nil, id, SH, leaf_some, isNormal, Int.reduceToNat, id_eq, Int.reduceBEq, Int.reduceLE, Int.reduceLT, Nat.reduceAdd, Nat.reduceEqDiff, Nat.reduceLT, Nat.reduceLeDiff, Nat.reduceMul, Nat.reduceSub, reduceIte]
      repeat' (split <;> (rename_i h; (try simp -implicitDefEqProofs only [Bool.not_eq_true', Bool.not_eq_false', decide_eq_true_eq, decide_eq_false_iff_not] at h); (try simp -implicitDefEqProofs only [W3, ↓D3, ↓DA, ↓DP, ↓DC, QX, *, rowU_nil, id, SH, leaf_some, isNormal, Int.reduceToNat, id_eq, Int.reduceBEq, Int.reduceLE, Int.reduceLT, Nat.reduceAdd, Nat.reduceEqDiff, Nat.reduceLT, Nat.reduceLeDiff, Nat.reduceMul, Nat.reduceSub, reduceIte])))
    · simp -implicitDefEqProofs only [rowU_ne h1, id]
      simp -implicitDefEqProofs only [W3, ↓D3, ↓DA, ↓DP, ↓DC, QX, SH, leaf_some, isNormal, Int.reduceToNat, id_eq, Int.reduceBEq, Int.reduceLE, Int.reduceLT, Nat.reduceAdd, Nat.reduceEqDiff, Nat.reduceLT, Nat.reduceLeDiff, Nat.reduceMul, Nat.reduceSub, reduceIte]
      repeat' (split <;> (rename_i h; (try simp -implicitDefEqProofs only [Bool.not_eq_true', Bool.not_eq_false', decide_eq_true_eq, decide_eq_false_iff_not] at h); (try simp -implicitDefEqProofs only [W3, ↓D3, ↓DA, ↓DP, ↓DC, QX, *, SH, leaf_some, isNormal, Int.reduceToNat, id_eq, Int.reduceBEq, Int.reduceLE, Int.reduceLT, Nat.reduceAdd, Nat.reduceEqDiff, Nat.reduceLT, Nat.reduceLeDiff, Nat.reduceMul, Nat.reduceSub, reduceIte])))
  · intro pre c r b hs' hb
    have hx := (at_row hs' hs).1; have hc := (at_row hs' hs).2.1; have hlt := (at_row hs' hs).2.2.1; have hw1 := (at_row hs' hs).2.2.2.1; have hl9 := (at_row hs' hs).2.2.2.2
    clear hs'
    have hm1 : (b.length + 1) * 72 ≤ 140737488355328 := by omega
    have hm2 : b.length + 1 ≤ 9223372036854775807 := by omega
    have hm9 : b.length ≤ 9223372036854775806 := by omega
    have hpl : plains [AV.agg [.int .i64 c.effect, .int .i64 c.action, .int .i64 c.object, .int .i64 c.cond.op, .int .i64 c.cond.a, .int .i64 c.cond.b, .sl true (c.cond.args.map (Cond.enc true))]] = true := rfl
    have hel : [c].map (Rule.enc true) = [.agg [.int .i64 c.effect, .int .i64 c.action, .int .i64 c.object, .int .i64 c.cond.op, .int .i64 c.cond.a, .int .i64 c.cond.b, .sl true (c.cond.args.map (Cond.enc true))]] := rfl
    have hst : dropStep (i : Int) pre.length c b = .inr (if (!((pre.length : Int) == (i : Int))) = true then b ++ [c] else b) := rfl
    have hb1 : (b ++ [c]).length ≤ pre.length + 1 := by rw [List.length_append]; simp; omega
    have hne : b ++ [c] ≠ [] := by simp
    cases e : ((pre.length : Int) == (i : Int))
    · simp -implicitDefEqProofs only [e, Bool.not_false, if_true] at hst
      rcases Classical.em (b = []) with h1 | h1
      · subst h1
        simp -implicitDefEqProofs only [rowU_nil]
        simp -implicitDefEqProofs only [W3, ↓D3, ↓DA, ↓DP, ↓DC, QX, enc_Rule, hx, hlt, hw1, e, hst, hpl, bne, rowU_ne hne, List.map_append, hel, hm1, hm2, hm9, SH, keep_14_3, leaf_some, isNormal, Int.reduceToNat, id_eq, Int.reduceBEq, Int.reduceLE, Int.reduceLT, Nat.reduceAdd, Nat.reduceEqDiff, Nat.reduceLT, Nat.reduceLeDiff, Nat.reduceMul, Nat.reduceSub, reduceIte]
        repeat' (split <;> (rename_i h; (try simp -implicitDefEqProofs only [Bool.not_eq_true', Bool.not_eq_false', decide_eq_true_eq, decide_eq_false_iff_not] at h); (try simp -implicitDefEqProofs only [W3, ↓D3, ↓DA, ↓DP, ↓DC, QX, *, enc_Rule, hx, hlt, hw1, e, hst, hpl, bne, rowU_ne hne, List.map_append, hel, hm1, hm2, hm9, SH, keep_14_3, leaf_some, isNormal, Int.reduceToNat, id_eq, Int.reduceBEq, Int.reduceLE, Int.reduceLT, Nat.reduceAdd, Nat.reduceEqDiff, Nat.reduceLT, Nat.reduceLeDiff, Nat.reduceMul, Nat.reduceSub, reduceIte])))
        all_goals (first | exact hb1 | rfl | (simp; done) | omega)
      · simp -implicitDefEqProofs only [rowU_ne h1]
        simp -implicitDefEqProofs only [W3, ↓D3, ↓DA, ↓DP, ↓DC, QX, enc_Rule, hx, hlt, hw1, e, hst, hpl, bne, rowU_ne hne, List.map_append, hel, hm1, hm2, hm9, SH, keep_14_3, leaf_some, isNormal, Int.reduceToNat, id_eq, Int.reduceBEq, Int.reduceLE, Int.reduceLT, Nat.reduceAdd, Nat.reduceEqDiff, Nat.reduceLT, Nat.reduceLeDiff, Nat.reduceMul, Nat.reduceSub, reduceIte]
        repeat' (split <;> (rename_i h; (try simp -implicitDefEqProofs only [Bool.not_eq_true', Bool.not_eq_false', decide_eq_true_eq, decide_eq_false_iff_not] at h); (try simp -implicitDefEqProofs only [W3, ↓D3, ↓DA, ↓DP, ↓DC, QX, *, enc_Rule, hx, hlt, hw1, e, hst, hpl, bne, rowU_ne hne, List.map_append, hel, hm1, hm2, hm9, SH, keep_14_3, leaf_some, isNormal, Int.reduceToNat, id_eq, Int.reduceBEq, Int.reduceLE, Int.reduceLT, Nat.reduceAdd, Nat.reduceEqDiff, Nat.reduceLT, Nat.reduceLeDiff, Nat.reduceMul, Nat.reduceSub, reduceIte])))
        all_goals (first | exact hb1 | rfl | (simp; done) | omega)
    · simp -implicitDefEqProofs only [e, Bool.not_true, Bool.false_eq_true, if_false] at hst
      rcases Classical.em (b = []) with h1 | h1
      · subst h1
        simp -implicitDefEqProofs only [rowU_nil]
        simp -implicitDefEqProofs only [W3, ↓D3, ↓DA, ↓DP, ↓DC, QX, enc_Rule, hx, hlt, hw1, e, hst, bne, rowU_nil, SH, keep_14_3, leaf_some, isNormal, Int.reduceToNat, id_eq, Int.reduceBEq, Int.reduceLE, Int.reduceLT, Nat.reduceAdd, Nat.reduceEqDiff, Nat.reduceLT, Nat.reduceLeDiff, Nat.reduceMul, Nat.reduceSub, reduceIte]
        repeat' (split <;> (rename_i h; (try simp -implicitDefEqProofs only [Bool.not_eq_true', Bool.not_eq_false', decide_eq_true_eq, decide_eq_false_iff_not] at h); (try simp -implicitDefEqProofs only [W3, ↓D3, ↓DA, ↓DP, ↓DC, QX, *, enc_Rule, hx, hlt, hw1, e, hst, bne, rowU_nil, SH, keep_14_3, leaf_some, isNormal, Int.reduceToNat, id_eq, Int.reduceBEq, Int.reduceLE, Int.reduceLT, Nat.reduceAdd, Nat.reduceEqDiff, Nat.reduceLT, Nat.reduceLeDiff, Nat.reduceMul, Nat.reduceSub, reduceIte])))
        all_goals (first | (simp; done) | omega)
      · simp -implicitDefEqProofs only [rowU_ne h1]
        simp -implicitDefEqProofs only [W3, ↓D3, ↓DA, ↓DP, ↓DC, QX, enc_Rule, hx, hlt, hw1, e, hst, bne, rowU_ne h1, SH, keep_14_3, leaf_some, isNormal, Int.reduceToNat, id_eq, Int.reduceBEq, Int.reduceLE, Int.reduceLT, Nat.reduceAdd, Nat.reduceEqDiff, Nat.reduceLT, Nat.reduceLeDiff, Nat.reduceMul, Nat.reduceSub, reduceIte]
        repeat' (split <;> (rename_i h; (try simp -implicitDefEqProofs only [Bool.not_eq_true', Bool.not_eq_false', decide_eq_true_eq, decide_eq_false_iff_not] at h); (try simp -implicitDefEqProofs only [W3, ↓D3, ↓DA, ↓DP, ↓DC, QX, *, enc_Rule, hx, hlt, hw1, e, hst, bne, rowU_ne h1, SH, keep_14_3, leaf_some, isNormal, Int.reduceToNat, id_eq, Int.reduceBEq, Int.reduceLE, Int.reduceLT, Nat.reduceAdd, Nat.reduceEqDiff, Nat.reduceLT, Nat.reduceLeDiff, Nat.reduceMul, Nat.reduceSub, reduceIte])))
        all_goals (first | (simp; done) | omega)
  · simp -implicitDefEqProofs only [firstRegion]
    rw [keep_14_3]
    simp -implicitDefEqProofs only [W3, ↓D3, ↓DA, ↓DP, ↓DC, rowU_nil, Int.reduceToNat, id_eq, Int.reduceBEq, Int.reduceLE, Int.reduceLT, SH, Nat.reduceAdd, Nat.reduceEqDiff, Nat.reduceLT, Nat.reduceLeDiff, Nat.reduceMul, Nat.reduceSub, reduceIte]
  · rw [hL]
theorem r_spec_WithoutRule (k : Nat) (hk : 290271069732864 + 8 ≤ k) (p : Policy) (hp : p.w ≤ 1099511627776) (i : Nat) (hi : i < p.rules.length) :
    run E noExt k 39 [p.enc true, .int .i64 (i : Nat)] [] = some (.agg [.int .i64 p.version, .own 0 false 42 7 ((dropR p.rules i).map (Rule.enc true))], []) := by
  have hw : wl Rule.w p.rules ≤ 1099511627776 := hp
  have hs1 := wl_length Rule.w p.rules
  have hs : p.rules.length ≤ 140737488355328 := by omega
  have c1 := r_spec_l19Copy (fl := true) (k - 1) (by omega) p hp
  have c2 := r_spec_l1In (k - 1) (by omega) (i : Nat) 0 ((p.rules.length : Int) - 1)
  have hin : inR (i : Nat) 0 ((p.rules.length : Int) - 1) = true := by unfold inR; simp; omega
  rw [hin] at c2
  have hne : p.rules.map Rule.tencN ≠ [] := fun e => by rw [List.map_eq_nil_iff] at e; rw [e] at hi; simp at hi
  have hwr : IntKind.i64.wrap ((p.rules.length : Int) - 1) = (p.rules.length : Int) - 1 := IntWalk.i64_in _ (by omega)
  have hwi : IntKind.i64.wrap ((i : Int) + 1) = ((i + 1 : Nat) : Int) := by rw [IntWalk.i64_in _ (by omega)]; omega
  rw [rowR_ne hne] at c1
  have hsc := tscals_NR p.rules
  have hdr : (dropR p.rules i).map (Rule.enc true) = (p.rules.map (Rule.enc true)).take i ++ (p.rules.map (Rule.enc true)).drop (i + 1) := by unfold dropR; rw [List.map_append, List.map_take, List.map_drop]
  rw [hdr]
  have hall : ∀ y ∈ p.rules.map (Rule.enc true), decide (y.cells.length = 7) = true ∧ (y.cells.all fun c => match c with | .tr _ _ _ => false | _ => true) = true := fun y hy => by
    obtain ⟨r, _, rfl⟩ := List.mem_map.1 hy
    exact ⟨rfl, rfl⟩
  have hRl : (p.rules.map (Rule.enc true)).length = p.rules.length := List.length_map _
  have ha0 : ((p.rules.map (Rule.enc true)).all fun y => decide (y.cells.length = 7)) = true := List.all_eq_true.2 fun y hy => (hall y hy).1
  have ha1 : (((p.rules.map (Rule.enc true)).take i).all fun y => decide (y.cells.length = 7)) = true := List.all_eq_true.2 fun y hy => (hall y (List.mem_of_mem_take hy)).1
  have ha2 : (((p.rules.map (Rule.enc true)).drop (i + 1)).all fun y => decide (y.cells.length = 7)) = true := List.all_eq_true.2 fun y hy => (hall y (List.mem_of_mem_drop hy)).1
  have hp1 : plains ((p.rules.map (Rule.enc true)).take i) = true := List.all_eq_true.2 fun y hy => (hall y (List.mem_of_mem_take hy)).2
  have hp2 : plains ((p.rules.map (Rule.enc true)).drop (i + 1)) = true := List.all_eq_true.2 fun y hy => (hall y (List.mem_of_mem_drop hy)).2
  have hle1 : ((i : Nat) : Int) ≤ (p.rules.length : Nat) := by omega
  have hle2 : ((i + 1 : Nat) : Int) ≤ (p.rules.length : Nat) := by omega
  have hmi : min i p.rules.length = i := by omega
  have hm1 : i * 72 ≤ 140737488355328 := by omega
  have hm2 : i ≤ 9223372036854775807 := by omega
  have hm3 : (i + (p.rules.length - (i + 1))) * 72 ≤ 140737488355328 := by omega
  have hm4 : i + (p.rules.length - (i + 1)) ≤ 9223372036854775807 := by omega
  obtain ⟨k, rfl⟩ : ∃ j, k = j + 1 := ⟨k - 1, by omega⟩
  rw [run_succ rfl rfl, body_eq (nt := 28) (fn := Go.Proofs.Tryz.f39) (by kernel_rfl) rfl rfl rfl rfl rfl rfl rfl rfl]
  simp -implicitDefEqProofs only [Nat.add_sub_cancel, enc_Policy] at c1 c2
  simp -implicitDefEqProofs only [enc_Policy]
  generalize hR : p.rules.map (Rule.enc true) = R at *
  simp -implicitDefEqProofs only [↓AV.cells.eq_def] at ha0 ha1 ha2
  simp -implicitDefEqProofs only [W3, ↓D3, ↓DA, ↓DP, ↓DC, Go.Proofs.Tryz.f39, c1, c2, hsc, hwr, hwi, hR, hRl, ha0, ha1, ha2, hp1, hp2, hle1, hle2, hmi, hm1, hm2, hm3, hm4, St.openB, tshuts_NR, plan_39_3, SH, Int.reduceToNat, id_eq, Int.reduceBEq, Int.reduceLE, Int.reduceLT, Nat.reduceAdd, Nat.reduceEqDiff, Nat.reduceLT, Nat.reduceLeDiff, Nat.reduceMul, Nat.reduceSub, reduceIte]
end Go.Proofs.YtokjpncehggojaaGreat.Flat
