/-
Which rules hold, and what a policy decides.
-/
import Derived.Test.YtokjpncehggojaaGreatEqV
import Derived.Test.YtokjpncehggojaaGreatEqYB
import Derived.Test.YtokjpncehggojaaGreatEqU
import Derived.Test.YtokjpncehggojaaGreatEqGA
set_option linter.unusedVariables false
set_option linter.unusedSimpArgs false
set_option maxRecDepth 10000
namespace Go.Proofs.YtokjpncehggojaaGreat.Flat
def isRequest (q : Request) : Bool := hasKind q.person 1 && (hasKind q.device 2 && (hasKind q.program 3 && (hasKind q.object 4 && (inR q.action 0 5 && isT q.now))))
theorem r_impl_IsRequest {fl : Bool} (k : Nat) (hk : 281474976710656 + 5 ≤ k) (q : Request) : run E noExt k 12 [q.enc fl] [] = some (.bool (isRequest q), []) := by
  obtain ⟨k, rfl⟩ : ∃ j, k = j + 1 := ⟨k - 1, by omega⟩
  rw [run_succ rfl rfl, body_eq (nt := 31) (fn := Go.Proofs.Tryz.f12) (by kernel_rfl) rfl rfl rfl rfl rfl rfl rfl rfl]
  have c_impl_InRange := r_impl_InRange k (by omega)
  have c_impl_HasKind := r_impl_HasKind k (by omega)
  have c_impl_IsTime := r_impl_IsTime k (by omega)
  simp -implicitDefEqProofs only [W1, ↓D1, ↓DC, QX, Go.Proofs.Tryz.f12, c_impl_InRange, c_impl_HasKind, c_impl_IsTime, enc_Request, Int.reduceToNat, id_eq, Int.reduceBEq, Int.reduceLE, Int.reduceLT, Nat.reduceAdd, Nat.reduceEqDiff, Nat.reduceLT, Nat.reduceLeDiff, Nat.reduceMul, Nat.reduceSub, reduceIte]
  repeat' (split <;> (rename_i h; (try simp -implicitDefEqProofs only [Bool.not_eq_true', Bool.not_eq_false', decide_eq_true_eq, decide_eq_false_iff_not] at h); (try simp -implicitDefEqProofs only [W1, ↓D1, ↓DC, QX, *, c_impl_InRange, c_impl_HasKind, c_impl_IsTime, enc_Request, Int.reduceToNat, id_eq, Int.reduceBEq, Int.reduceLE, Int.reduceLT, Nat.reduceAdd, Nat.reduceEqDiff, Nat.reduceLT, Nat.reduceLeDiff, Nat.reduceMul, Nat.reduceSub, reduceIte])))
  all_goals simp -implicitDefEqProofs only [isRequest, *, Bool.true_and, Bool.false_and, Bool.and_true, Bool.and_false]
noncomputable def ruleAt (l : List Includes) (s : List Fact) (q : Request) (r : Rule) : Bool := isFor r q.action q.object && evalAt l s q r.cond
theorem r_spec_RulesThatHold {fl f2 f3 f4 : Bool} (k : Nat) (hk : 294669116243968 + 15 ≤ k) (l : List Includes) (hl : l.length ≤ 140737488355328) (s : List Fact) (hs : s.length ≤ 140737488355328) (p : Policy) (hp : p.w ≤ 1099511627776) (q : Request) :
    run E noExt k 9 [.sl fl (l.map (Includes.enc fl)), .sl f2 (s.map (Fact.enc f2)), p.enc f3, q.enc f4] [] = some (.own 0 false 3 1 ((holdL (ruleAt l s q) 0 p.rules).map (AV.int .i64)), []) := by
  unfold Policy.w at hp
  have hs1 := Nat.le_trans (wl_length _ p.rules) hp
  have hs : p.rules.length ≤ 140737488355328 := by omega
  have c1 : ∀ r ∈ p.rules, run E noExt (k - 1) 24 [r.enc f3, .int .i64 q.action, .int .i64 q.object] [] = some (.bool (isFor r q.action q.object), []) := fun r _ => r_spec_IsFor _ (by omega) r _ _
  have c2 : ∀ r ∈ p.rules, run E noExt (k - 1) 25 [.sl fl (l.map (Includes.enc fl)), .sl f2 (s.map (Fact.enc f2)), r.cond.enc f3, q.enc f4] [] = some (.bool (evalAt l s q r.cond), []) :=
    fun r hr => r_spec_EvalCond _ (by omega) l hl s (by assumption) r.cond (by have h1 := wl_mem (w := Rule.w) hr; have h2 : r.cond.w = r.w := rfl; omega) q
  obtain ⟨k, rfl⟩ : ∃ j, k = j + 1 := ⟨k - 1, by omega⟩
  rw [run_succ rfl rfl, body_eq (nt := 46) (fn := Go.Proofs.Tryz.f9) (by kernel_rfl) rfl rfl rfl rfl rfl rfl rfl rfl]
  simp -implicitDefEqProofs only [Nat.add_sub_cancel] at c1 c2
  simp -implicitDefEqProofs only [W3, ↓D3, ↓DA, ↓DP, ↓DC, Go.Proofs.Tryz.f9, enc_Policy, enc_Request, SH, Int.reduceToNat, id_eq, Int.reduceBEq, Int.reduceLE, Int.reduceLT, Nat.reduceAdd, Nat.reduceEqDiff, Nat.reduceLT, Nat.reduceLeDiff, Nat.reduceMul, Nat.reduceSub, reduceIte]
  rw [ev_loop]
  refine Eq.trans (loop_list (Q := fun g x => thenEnd E.P [] _ 0 (thenEv E _ _ _ _ _ (outOf 0 x)) = some (.own 0 false 3 1 (g.map (AV.int .i64)), [])) p.rules (holdStep (ruleAt l s q)) id
    (fun i b => { sl := [(0, .sl fl (l.map (Includes.enc fl))), (1, .sl f2 (s.map (Fact.enc f2))), (6, .ptr 0 0), (7, .ptr 1 0), (9, .own 0 false 3 1 (b.map (AV.int .i64))), (10, .int .i64 (i : Nat))],
                  bx := [(0, [.int .i64 p.version, .sl f3 (p.rules.map (Rule.enc f3))]), (1, [.int .i64 q.person, .int .i64 q.device, .int .i64 q.program, .int .i64 q.action, .int .i64 q.object, .int .i64 q.now])], nx := 3, nt := 46 }) (fun i b => b.length ≤ i) [] ?_ ?_ (by omega) (by simp) ?_) ?_
  · intro b _
    simp -implicitDefEqProofs only [W3, ↓D3, ↓DA, ↓DP, ↓DC, QX, SH, leaf_some, isNormal, Int.reduceToNat, id_eq, Int.reduceBEq, Int.reduceLE, Int.reduceLT, Nat.reduceAdd, Nat.reduceEqDiff, Nat.reduceLT, Nat.reduceLeDiff, Nat.reduceMul, Nat.reduceSub, reduceIte]
    repeat' (split <;> (rename_i h; (try simp -implicitDefEqProofs only [Bool.not_eq_true', Bool.not_eq_false', decide_eq_true_eq, decide_eq_false_iff_not] at h); (try simp -implicitDefEqProofs only [W3, ↓D3, ↓DA, ↓DP, ↓DC, QX, *, SH, leaf_some, isNormal, Int.reduceToNat, id_eq, Int.reduceBEq, Int.reduceLE, Int.reduceLT, Nat.reduceAdd, Nat.reduceEqDiff, Nat.reduceLT, Nat.reduceLeDiff, Nat.reduceMul, Nat.reduceSub, reduceIte])))
  · intro pre c r b hs' hb
    have hx := (at_row hs' hs).1; have hc := (at_row hs' hs).2.1; have hlt := (at_row hs' hs).2.2.1; have hw1 := (at_row hs' hs).2.2.2.1; have hl9 := (at_row hs' hs).2.2.2.2
    clear hs'
    have c3 := c1 c hc
    have c4 := c2 c hc
    simp -implicitDefEqProofs only [enc_Rule, enc_Cond, enc_Request] at c3 c4
    have hq : ruleAt l s q c = (isFor c q.action q.object && evalAt l s q c.cond) := rfl
    generalize evalAt l s q c.cond = b2 at c4 hq
    generalize isFor c q.action q.object = b1 at c3 hq
    have hm1 : (b.length + 1) * 8 ≤ 140737488355328 := by omega
    have hm2 : b.length + 1 ≤ 9223372036854775807 := by omega
    have hpl : plains [AV.int IntKind.i64 (pre.length : Int)] = true := rfl
    have hm3 : b.length ≤ pre.length + 1 := by omega
    have hm4 : (b ++ [((pre.length : Nat) : Int)]).length ≤ pre.length + 1 := by rw [List.length_append]; exact Nat.succ_le_succ hb
    clear c1 c2
    cases b1 <;> cases b2 <;> simp -implicitDefEqProofs only [Bool.and_self, Bool.and_false, Bool.and_true] at hq
    all_goals
      simp -implicitDefEqProofs only [W3, ↓D3, ↓DA, ↓DP, ↓DC, QX, enc_Rule, hx, hlt, hw1, c3, c4, hq, hm1, hm2, hm3, hm4, hpl, holdStep, List.map_append, plan_9_5, SH, keep_9_3, leaf_some, isNormal, Int.reduceToNat, id_eq, Int.reduceBEq, Int.reduceLE, Int.reduceLT, Nat.reduceAdd, Nat.reduceEqDiff, Nat.reduceLT, Nat.reduceLeDiff, Nat.reduceMul, Nat.reduceSub, reduceIte]
      repeat' (split <;> (rename_i h; (try simp -implicitDefEqProofs only [Bool.not_eq_true', Bool.not_eq_false', decide_eq_true_eq, decide_eq_false_iff_not] at h); (try simp -implicitDefEqProofs only [W3, ↓D3, ↓DA, ↓DP, ↓DC, QX, *, enc_Rule, hx, hlt, hw1, c3, c4, hq, hm1, hm2, hm3, hm4, hpl, holdStep, List.map_append, plan_9_5, SH, keep_9_3, leaf_some, isNormal, Int.reduceToNat, id_eq, Int.reduceBEq, Int.reduceLE, Int.reduceLT, Nat.reduceAdd, Nat.reduceEqDiff, Nat.reduceLT, Nat.reduceLeDiff, Nat.reduceMul, Nat.reduceSub, reduceIte])))
  · simp -implicitDefEqProofs only [firstRegion]; rw [keep_9_3]; simp -implicitDefEqProofs only [W2, ↓D2, ↓DC, Int.reduceToNat, id_eq, Int.reduceBEq, Int.reduceLE, Int.reduceLT, Nat.reduceAdd, Nat.reduceEqDiff, Nat.reduceLT, Nat.reduceLeDiff, Nat.reduceMul, Nat.reduceSub, reduceIte]; first | done | rfl
  · rw [holdLoop]; rfl
theorem r_impl_RulesThatHold {fl f2 f3 f4 : Bool} (k : Nat) (hk : 884940186000000 + 8 ≤ k) (l : List Includes) (hl : l.length ≤ 140737488355328) (s : List Fact) (hs : s.length ≤ 1099511627776) (p : Policy) (hp : p.w ≤ 1099511627776) (q : Request) :
    run E noExt k 6 [.sl fl (l.map (Includes.enc fl)), .sl f2 (s.map (Fact.enc f2)), p.enc f3, q.enc f4] [] = some (.own 0 false 3 1 ((holdL (ruleAt l s q) 0 p.rules).map (AV.int .i64)), []) := by
  unfold Policy.w at hp
  have hs1 := Nat.le_trans (wl_length _ p.rules) hp
  have c1 : ∀ r ∈ p.rules, run E noExt (k - 1) 20 [r.enc f3, .int .i64 q.action, .int .i64 q.object] [] = some (.bool (isFor r q.action q.object), []) := fun r _ => r_impl_IsFor _ (by omega) r _ _
  have c2 : ∀ r ∈ p.rules, run E noExt (k - 1) 21 [.sl fl (l.map (Includes.enc fl)), .sl f2 (s.map (Fact.enc f2)), r.cond.enc f3, q.enc f4] [] = some (.bool (evalAt l s q r.cond), []) :=
    fun r hr => r_impl_EvalCond _ (by omega) l hl s hs r.cond (by have h1 := wl_mem (w := Rule.w) hr; have h2 : r.cond.w = r.w := rfl; omega) q
  clear hs
  have hs : p.rules.length ≤ 140737488355328 := by omega
  obtain ⟨k, rfl⟩ : ∃ j, k = j + 1 := ⟨k - 1, by omega⟩
  rw [run_succ rfl rfl, body_eq (nt := 41) (fn := Go.Proofs.Tryz.f6) (by kernel_rfl) rfl rfl rfl rfl rfl rfl rfl rfl]
  simp -implicitDefEqProofs only [Nat.add_sub_cancel] at c1 c2
  simp -implicitDefEqProofs only [W3, ↓D3, ↓DA, ↓DP, ↓DC, Go.Proofs.Tryz.f6, enc_Policy, enc_Request, SH, Int.reduceToNat, id_eq, Int.reduceBEq, Int.reduceLE, Int.reduceLT, Nat.reduceAdd, Nat.reduceEqDiff, Nat.reduceLT, Nat.reduceLeDiff, Nat.reduceMul, Nat.reduceSub, reduceIte]
  rw [ev_loop]
  refine Eq.trans (loop_list (Q := fun g x => thenEnd E.P [] _ 0 (thenEv E _ _ _ _ _ (outOf 0 x)) = some (.own 0 false 3 1 (g.map (AV.int .i64)), [])) p.rules (holdStep (ruleAt l s q)) id
    (fun i b => { sl := [(0, .sl fl (l.map (Includes.enc fl))), (1, .sl f2 (s.map (Fact.enc f2))), (7, .ptr 0 0), (9, .own 0 false 3 1 (b.map (AV.int .i64))), (14, .sl f3 (p.rules.map (Rule.enc f3))), (15, .int .i64 (p.rules.length : Nat)), (16, .int .i64 (i : Nat))],
                  bx := [(0, [.int .i64 q.person, .int .i64 q.device, .int .i64 q.program, .int .i64 q.action, .int .i64 q.object, .int .i64 q.now])], nx := 2, nt := 41 }) (fun i b => b.length ≤ i) [] ?_ ?_ (by omega) (by simp) ?_) ?_
  · intro b _
    simp -implicitDefEqProofs only [W3, ↓D3, ↓DA, ↓DP, ↓DC, QX, SH, leaf_some, isNormal, Int.reduceToNat, id_eq, Int.reduceBEq, Int.reduceLE, Int.reduceLT, Nat.reduceAdd, Nat.reduceEqDiff, Nat.reduceLT, Nat.reduceLeDiff, Nat.reduceMul, Nat.reduceSub, reduceIte]
    repeat' (split <;> (rename_i h; (try simp -implicitDefEqProofs only [Bool.not_eq_true', Bool.not_eq_false', decide_eq_true_eq, decide_eq_false_iff_not] at h); (try simp -implicitDefEqProofs only [W3, ↓D3, ↓DA, ↓DP, ↓DC, QX, *, SH, leaf_some, isNormal, Int.reduceToNat, id_eq, Int.reduceBEq, Int.reduceLE, Int.reduceLT, Nat.reduceAdd, Nat.reduceEqDiff, Nat.reduceLT, Nat.reduceLeDiff, Nat.reduceMul, Nat.reduceSub, reduceIte])))
  · intro pre c r b hs' hb
    have hx := (at_row hs' hs).1; have hc := (at_row hs' hs).2.1; have hlt := (at_row hs' hs).2.2.1; have hw1 := (at_row hs' hs).2.2.2.1; have hl9 := (at_row hs' hs).2.2.2.2
    clear hs'
    have c3 := c1 c hc
    have c4 := c2 c hc
    simp -implicitDefEqProofs only [enc_Rule, enc_Cond, enc_Request] at c3 c4
    have hq : ruleAt l s q c = (isFor c q.action q.object && evalAt l s q c.cond) := rfl
    generalize evalAt l s q c.cond = b2 at c4 hq
    generalize isFor c q.action q.object = b1 at c3 hq
    have hm1 : (b.length + 1) * 8 ≤ 140737488355328 := by omega
    have hm2 : b.length + 1 ≤ 9223372036854775807 := by omega
    have hpl : plains [AV.int IntKind.i64 (pre.length : Int)] = true := rfl
    have hm3 : b.length ≤ pre.length + 1 := by omega
    have hm4 : (b ++ [((pre.length : Nat) : Int)]).length ≤ pre.length + 1 := by rw [List.length_append]; exact Nat.succ_le_succ hb
    clear c1 c2
    cases b1 <;> cases b2 <;> simp -implicitDefEqProofs only [Bool.and_self, Bool.and_false, Bool.and_true] at hq
    all_goals
      simp -implicitDefEqProofs only [W3, ↓D3, ↓DA, ↓DP, ↓DC, QX, enc_Rule, hx, hlt, hw1, c3, c4, hq, hm1, hm2, hm3, hm4, hpl, holdStep, List.map_append, SH, keep_6_3, leaf_some, isNormal, Int.reduceToNat, id_eq, Int.reduceBEq, Int.reduceLE, Int.reduceLT, Nat.reduceAdd, Nat.reduceEqDiff, Nat.reduceLT, Nat.reduceLeDiff, Nat.reduceMul, Nat.reduceSub, reduceIte]
      repeat' (split <;> (rename_i h; (try simp -implicitDefEqProofs only [Bool.not_eq_true', Bool.not_eq_false', decide_eq_true_eq, decide_eq_false_iff_not] at h); (try simp -implicitDefEqProofs only [W3, ↓D3, ↓DA, ↓DP, ↓DC, QX, *, enc_Rule, hx, hlt, hw1, c3, c4, hq, hm1, hm2, hm3, hm4, hpl, holdStep, List.map_append, SH, keep_6_3, leaf_some, isNormal, Int.reduceToNat, id_eq, Int.reduceBEq, Int.reduceLE, Int.reduceLT, Nat.reduceAdd, Nat.reduceEqDiff, Nat.reduceLT, Nat.reduceLeDiff, Nat.reduceMul, Nat.reduceSub, reduceIte])))
  · simp -implicitDefEqProofs only [firstRegion]; rw [keep_6_3]; simp -implicitDefEqProofs only [W2, ↓D2, ↓DC, Int.reduceToNat, id_eq, Int.reduceBEq, Int.reduceLE, Int.reduceLT, Nat.reduceAdd, Nat.reduceEqDiff, Nat.reduceLT, Nat.reduceLeDiff, Nat.reduceMul, Nat.reduceSub, reduceIte]; first | done | rfl
  · rw [holdLoop]; rfl
noncomputable def decideBy (l : List Includes) (s : List Fact) (p : Policy) (q : Request) : Int := if (isRequest q && isPolicy p) = true then decided p.rules (holdL (ruleAt l s q) 0 p.rules) else 0
theorem r_impl_DecideBy {fl f2 f3 f4 : Bool} (k : Nat) (hk : 884940186000000 + 9 ≤ k) (l : List Includes) (hl : l.length ≤ 140737488355328) (s : List Fact) (hs : s.length ≤ 1099511627776) (p : Policy) (hp : p.w ≤ 1099511627776) (q : Request) :
    run E noExt k 13 [.sl fl (l.map (Includes.enc fl)), .sl f2 (s.map (Fact.enc f2)), p.enc f3, q.enc f4] [] = some (.int .i64 (decideBy l s p q), []) := by
  have hp0 := hp
  unfold Policy.w at hp0
  have hs1 := Nat.le_trans (wl_length _ p.rules) hp0
  have hh := holdL_length (ruleAt l s q) p.rules 0
  have c1 := r_impl_IsRequest (fl := f4) (k - 1) (by omega) q
  have c2 := r_impl_IsPolicy (fl := f3) (k - 1) (by omega) p hp
  have c3 := r_impl_RulesThatHold (fl := fl) (f2 := f2) (f3 := f3) (f4 := f4) (k - 1) (by omega) l hl s hs p hp q
  have c4 := r_impl_decided (fl := f3) (f2 := true) (k - 1) (by omega) p (holdL (ruleAt l s q) 0 p.rules) (by omega) (by omega) (fun z hz => by
    obtain ⟨j, h1, h2⟩ := holdL_mem _ _ _ _ hz
    exact ⟨j, by simpa using h1, h2⟩)
  unfold decideBy
  obtain ⟨k, rfl⟩ : ∃ j, k = j + 1 := ⟨k - 1, by omega⟩
  rw [run_succ rfl rfl, body_eq (nt := 24) (fn := Go.Proofs.Tryz.f13) (by kernel_rfl) rfl rfl rfl rfl rfl rfl rfl rfl]
  simp -implicitDefEqProofs only [Nat.add_sub_cancel, enc_Policy, enc_Request] at c1 c2 c3 c4
  generalize isRequest q = b1 at c1 ⊢
  generalize isPolicy p = b2 at c2 ⊢
  cases b1 with
  | false => simp -implicitDefEqProofs only [W3, ↓D3, ↓DA, ↓DP, ↓DC, QX, Go.Proofs.Tryz.f13, enc_Policy, enc_Request, c1, c2, SH, Int.reduceToNat, id_eq, Int.reduceBEq, Int.reduceLE, Int.reduceLT, Nat.reduceAdd, Nat.reduceEqDiff, Nat.reduceLT, Nat.reduceLeDiff, Nat.reduceMul, Nat.reduceSub, reduceIte]
  | true =>
    cases b2 with
    | false => simp -implicitDefEqProofs only [W3, ↓D3, ↓DA, ↓DP, ↓DC, QX, Go.Proofs.Tryz.f13, enc_Policy, enc_Request, c1, c2, SH, Int.reduceToNat, id_eq, Int.reduceBEq, Int.reduceLE, Int.reduceLT, Nat.reduceAdd, Nat.reduceEqDiff, Nat.reduceLT, Nat.reduceLeDiff, Nat.reduceMul, Nat.reduceSub, reduceIte]
    | true => simp -implicitDefEqProofs only [W3, ↓D3, ↓DA, ↓DP, ↓DC, QX, Go.Proofs.Tryz.f13, enc_Policy, enc_Request, c1, c2, c3, c4, scals_ints, plains_ints, plan_13_3, SH, Int.reduceToNat, id_eq, Int.reduceBEq, Int.reduceLE, Int.reduceLT, Nat.reduceAdd, Nat.reduceEqDiff, Nat.reduceLT, Nat.reduceLeDiff, Nat.reduceMul, Nat.reduceSub, reduceIte]
theorem valid_leaf {c : Cond} (h : c.valid = true) (h7 : c.op ≠ 7) (h8 : c.op ≠ 8) (h9 : c.op ≠ 9) : c.op = 1 ∨ isLf c = true := by
  rw [c.valid_eq] at h
  simp -implicitDefEqProofs only [nodeOk, Bool.and_eq_true, beq_iff_eq, List.all_eq_true] at h
  have h1 := h.1.1.1
  have ar : arity c.op = if (c.op == 7) = true then 1 else if (c.op == 8) = true then 2 else if (c.op == 9) = true then 2 else if inR c.op 1 6 = true then 0 else -1 := rfl
  have e7 : (c.op == 7) = false := by simpa using h7
  have e8 : (c.op == 8) = false := by simpa using h8
  have e9 : (c.op == 9) = false := by simpa using h9
  rw [ar, e7, e8, e9] at h1
  simp -implicitDefEqProofs only [Bool.false_eq_true, if_false] at h1
  by_cases h0 : inR c.op 1 6 = true
  · rw [if_pos h0] at h1
    by_cases h2 : c.op = 1
    · exact .inl h2
    · right
      unfold isLf
      simp -implicitDefEqProofs only [inR, Bool.and_eq_true, decide_eq_true_eq, beq_iff_eq] at h0 ⊢
      omega
  · rw [if_neg h0] at h1
    omega
theorem lvs_mem {s : List Cond} {d y : Cond} (hd : d ∈ s) (hy : y ∈ lv d) : y ∈ lvs s := by
  induction s with
  | nil => simp at hd
  | cons c r ih =>
    simp -implicitDefEqProofs only [lvs, List.mem_append]
    rcases List.mem_cons.1 hd with rfl | hd
    · exact .inl hy
    · exact .inr (ih hd)
theorem eval_leaves (p p' : Cond → Bool) (h1 : ∀ y : Cond, y.op = 1 → p y = p' y) : ∀ c : Cond, c.valid = true → (∀ y ∈ lv c, p y = p' y) → c.eval p = c.eval p' := by
  intro c
  induction c using Cond.induct with
  | h c ih =>
    intro hv hl
    have sub : ∀ d ∈ c.args, ∀ y ∈ lv d, p y = p' y := fun d hd y hy => hl y (by rw [lv_eq]; exact List.mem_append_right _ (lvs_mem hd hy))
    obtain ⟨v7, v8, v9⟩ := valid_args hv
    rw [Cond.eval_eq, Cond.eval_eq p']
    by_cases e7 : c.op = 7
    · obtain ⟨a, ha, hva⟩ := v7 e7
      have := ih a (by rw [ha]; simp) hva (sub a (by rw [ha]; simp))
      simp [e7, ha, this]
    · by_cases e8 : c.op = 8
      · obtain ⟨a, b, hab, hva, hvb⟩ := v8 e8
        have i1 := ih a (by rw [hab]; simp) hva (sub a (by rw [hab]; simp))
        have i2 := ih b (by rw [hab]; simp) hvb (sub b (by rw [hab]; simp))
        simp [e8, hab, i1, i2]
      · by_cases e9 : c.op = 9
        · obtain ⟨a, b, hab, hva, hvb⟩ := v9 e9
          have i1 := ih a (by rw [hab]; simp) hva (sub a (by rw [hab]; simp))
          have i2 := ih b (by rw [hab]; simp) hvb (sub b (by rw [hab]; simp))
          simp [e9, hab, i1, i2]
        · have b7 : (c.op == 7) = false := by simpa using e7
          have b8 : (c.op == 8) = false := by simpa using e8
          have b9 : (c.op == 9) = false := by simpa using e9
          simp -implicitDefEqProofs only [b7, b8, b9, Bool.false_eq_true, if_false]
          rcases valid_leaf hv e7 e8 e9 with h | h
          · exact h1 c h
          · exact hl c (by rw [lv_eq, if_pos h]; simp)
theorem leafVal_map {atoms : List Cond} {f : Cond → Bool} {c : Cond} (h : c ∈ atoms) : leafVal atoms (atoms.map f) c = f c := by
  have h0 : 0 ≤ leafIdx atoms c := (indexBy_iff _ _ _).2 (List.any_eq_true.2 ⟨c, h, by simp⟩)
  obtain ⟨i, x, h1, h2, h3⟩ := indexBy_at atoms 0 h0
  have hx : x = c := of_decide_eq_true h3
  subst hx
  have hi := (List.getElem?_eq_some_iff.1 h2).1
  have h1' : leafIdx atoms x = (i : Int) := by unfold leafIdx; rw [h1, Nat.zero_add]
  unfold leafVal
  rw [h1']
  simp -implicitDefEqProofs only [List.length_map, Int.toNat_natCast]
  rw [List.getD_eq_getElem?_getD, List.getElem?_map, h2]
  simp -implicitDefEqProofs only [Option.map_some, Option.getD_some]
  have e1 : decide ((0 : Int) ≤ (i : Int)) = true := by simp
  have e2 : decide ((i : Int) < ((atoms.length : Nat) : Int)) = true := by simp -implicitDefEqProofs only [decide_eq_true_eq]; omega
  rw [e1, e2]
  simp
theorem lvsFor_mem {a o : Int} : ∀ {s : List Rule} {r : Rule} {y : Cond}, r ∈ s → isFor r a o = true → y ∈ lv r.cond → y ∈ lvsFor a o s
  | [], r, y, h, _, _ => by simp at h
  | c :: s, r, y, h, hf, hy => by
    simp -implicitDefEqProofs only [lvsFor, List.mem_append]
    rcases List.mem_cons.1 h with rfl | h
    · left; rw [if_pos hf]; exact hy
    · right; exact lvsFor_mem h hf hy
theorem polBy_congr {f g : Rule → Bool} : ∀ (s : List Rule) (i : Nat) (y : Bool), (∀ r ∈ s, f r = g r) → loopL (polStep f) id i s y = loopL (polStep g) id i s y
  | [], _, _, _ => rfl
  | r :: s, i, y, h => by
    have h1 := h r (by simp)
    have ih := fun y => polBy_congr s (i + 1) y (fun r hr => h r (by simp [hr]))
    simp -implicitDefEqProofs only [loopL, polStep, h1]
    cases g r
    · simp -implicitDefEqProofs only [Bool.false_eq_true, if_false]; exact ih y
    · simp -implicitDefEqProofs only [if_true]
      cases r.effect == 0
      · simp -implicitDefEqProofs only [Bool.false_eq_true, if_false]; exact ih _
      · simp -implicitDefEqProofs only [if_true]
theorem decided_01 (rules : List Rule) : ∀ (hold : List Int) (i : Nat) (out : Int), (out = 0 ∨ out = 1) → (loopL (decStep rules) id i hold out = 0 ∨ loopL (decStep rules) id i hold out = 1)
  | [], _, _, h => h
  | z :: r, i, out, h => by
    simp -implicitDefEqProofs only [loopL, decStep]
    split
    · rename_i g hg
      split at hg
      · simp at hg; exact .inl hg.symm
      · split at hg <;> simp at hg
    · rename_i b hb
      split at hb
      · simp at hb
      · split at hb
        · simp at hb; subst hb; exact decided_01 rules r (i + 1) 1 (.inr rfl)
        · simp at hb; subst hb; exact decided_01 rules r (i + 1) out h
noncomputable def confAt (a b : Rule) : Bool := (((a.effect == 1) && (b.effect == 0)) && meet a b) && canBoth a.cond b.cond
noncomputable def cStep (i : Nat) (a : Rule) (k : Nat) (b : Rule) (out : List Conflict) : Sum (List Conflict) (List Conflict) := .inr (if confAt a b = true then out ++ [⟨(i : Nat), (k : Nat)⟩] else out)
noncomputable def confRow (s : List Rule) (i : Nat) (a : Rule) (out : List Conflict) : List Conflict := loopL (cStep i a) id 0 s out
noncomputable def oStep (s : List Rule) (i : Nat) (a : Rule) (out : List Conflict) : Sum (List Conflict) (List Conflict) := .inr (confRow s i a out)
noncomputable def conflicts (p : Policy) : List Conflict := loopL (oStep p.rules) id 0 p.rules []
theorem cLoop_len (i : Nat) (a : Rule) : ∀ (s : List Rule) (k : Nat) (out : List Conflict), (loopL (cStep i a) id k s out).length ≤ out.length + s.length
  | [], k, out => by simp [loopL]
  | c :: r, k, out => by
    simp -implicitDefEqProofs only [loopL, cStep]
    have := cLoop_len i a r (k + 1) (if confAt a c = true then out ++ [⟨(i : Nat), (k : Nat)⟩] else out)
    simp -implicitDefEqProofs only [List.length_cons]
    cases h : confAt a c
    · rw [h] at this
      simp -implicitDefEqProofs only [Bool.false_eq_true, if_false] at this ⊢
      omega
    · rw [h] at this
      simp -implicitDefEqProofs only [if_true, List.length_append, List.length_singleton] at this ⊢
      omega
theorem confRow_len (s : List Rule) (i : Nat) (a : Rule) (out : List Conflict) : (confRow s i a out).length ≤ out.length + s.length := cLoop_len i a s 0 out
theorem oLoop_len (s : List Rule) : ∀ (t : List Rule) (i : Nat) (out : List Conflict), (loopL (oStep s) id i t out).length ≤ out.length + t.length * s.length
  | [], i, out => by simp [loopL]
  | c :: r, i, out => by
    simp -implicitDefEqProofs only [loopL, oStep]
    have h1 := oLoop_len s r (i + 1) (confRow s i c out)
    have h2 := confRow_len s i c out
    have h3 : (c :: r).length * s.length = r.length * s.length + s.length := by rw [List.length_cons, Nat.succ_mul]
    omega
theorem conflicts_len (p : Policy) : (conflicts p).length ≤ p.w * p.w := by
  have h := oLoop_len p.rules p.rules 0 []
  have h1 : p.rules.length ≤ p.w := wl_length Rule.w p.rules
  have h2 : p.rules.length * p.rules.length ≤ p.w * p.w := Nat.mul_le_mul h1 h1
  simp -implicitDefEqProofs only [List.length_nil, Nat.zero_add] at h
  exact Nat.le_trans h h2
theorem sq_le {n i : Nat} (hn : n ≤ 1048576) (hi : i + 1 ≤ n) : i * n + n ≤ 1099511627776 := by
  have h1 : (i + 1) * n ≤ n * n := Nat.mul_le_mul_right n hi
  have h2 : n * n ≤ 1048576 * 1048576 := Nat.mul_le_mul hn hn
  rw [Nat.succ_mul] at h1
  omega
set_option maxHeartbeats 4000000 in
theorem r_impl_ConflictsIn {fl : Bool} (hfl : fl = true) (k : Nat) (hk : 884940186000000 + 40 ≤ k) (p : Policy) (hp : p.w ≤ 1048576) :
    run E noExt k 7 [p.enc fl] [] = some (.own 0 false 44 2 ((conflicts p).map (Conflict.enc true)), []) := by
  subst hfl
  have hn : p.rules.length ≤ 1048576 := Nat.le_trans (wl_length Rule.w p.rules) hp
  have hs : p.rules.length ≤ 140737488355328 := by omega
  have hwm : ∀ c ∈ p.rules, c.cond.w ≤ 1073741824 := fun c hc => by have := wl_mem (w := Rule.w) hc; have hw : c.w = c.cond.w := rfl; unfold Policy.w at hp; omega
  have c1 := fun (a b : Rule) => r_impl_Meet (fl := true) (gl := true) (k - 1) (by omega) a b
  have c2 := fun (a b : Rule) ha hb => r_impl_CanBothHold (k - 1) (by omega) a.cond b.cond ha hb
  unfold conflicts
  obtain ⟨k, rfl⟩ : ∃ j, k = j + 1 := ⟨k - 1, by omega⟩
  rw [run_succ rfl rfl, body_eq (nt := 54) (fn := Go.Proofs.Tryz.f7) (by kernel_rfl) rfl rfl rfl rfl rfl rfl rfl rfl]
  simp -implicitDefEqProofs only [Nat.add_sub_cancel, enc_Cond, enc_Rule] at c1 c2
  simp -implicitDefEqProofs only [W4, ↓D4, ↓DA, ↓DP, ↓DC, Go.Proofs.Tryz.f7, enc_Policy, SH, dedup, nodupB, idx, AV.rows, AV.rowss, AV.mapO, AV.mapOs, Int.reduceToNat, id_eq, Int.reduceBEq, Int.reduceLE, Int.reduceLT, Nat.reduceAdd, Nat.reduceEqDiff, Nat.reduceLT, Nat.reduceLeDiff, Nat.reduceMul, Nat.reduceSub, reduceIte]
  rw [ev_loop]
  refine Eq.trans (loop_list (Q := fun (g : List Conflict) z => thenEnd E.P _ _ 0 (thenEv E _ _ _ _ _ (outOf 0 z)) = some (.own 0 false 44 2 (g.map (Conflict.enc true)), [])) p.rules (oStep p.rules) id
    (fun i b => { sl := [(1, .ptr 0 0), (3, .own 0 false 44 2 (b.map (Conflict.enc true))), (10, .sl true (p.rules.map (Rule.enc true))), (11, .int .i64 (p.rules.length : Nat)), (12, .int .i64 (i : Nat))], bx := [(0, [.int .i64 p.version, .sl true (p.rules.map (Rule.enc true))])], nx := 2, nt := 54 })
    (fun i b => b.length ≤ i * p.rules.length) [] ?_ ?_ (by omega) (by simp) ?_) rfl
  · intro b _
    simp -implicitDefEqProofs only [W3, ↓D3, ↓DA, ↓DP, ↓DC, QX, SH, leaf_some, isNormal, Int.reduceToNat, id_eq, Int.reduceBEq, Int.reduceLE, Int.reduceLT, Nat.reduceAdd, Nat.reduceEqDiff, Nat.reduceLT, Nat.reduceLeDiff, Nat.reduceMul, Nat.reduceSub, reduceIte]
    repeat' (split <;> (rename_i h; (try simp -implicitDefEqProofs only [Bool.not_eq_true', Bool.not_eq_false', decide_eq_true_eq, decide_eq_false_iff_not] at h); (try simp -implicitDefEqProofs only [W3, ↓D3, ↓DA, ↓DP, ↓DC, QX, *, SH, leaf_some, isNormal, Int.reduceToNat, id_eq, Int.reduceBEq, Int.reduceLE, Int.reduceLT, Nat.reduceAdd, Nat.reduceEqDiff, Nat.reduceLT, Nat.reduceLeDiff, Nat.reduceMul, Nat.reduceSub, reduceIte])))
  · intro pre a r b hs' hb
    have hx := (at_row hs' hs).1; have hc := (at_row hs' hs).2.1; have hlt := (at_row hs' hs).2.2.1; have hw1 := (at_row hs' hs).2.2.2.1; have hl9 := (at_row hs' hs).2.2.2.2
    clear hs'
    have hw0 := hw1
    have hxa := hx
    have hca := hc
    have hsq := sq_le hn (i := pre.length) (by omega)
    have hst : oStep p.rules pre.length a b = .inr (confRow p.rules pre.length a b) := rfl
    have hI : (confRow p.rules pre.length a b).length ≤ (pre.length + 1) * p.rules.length := by
      have := confRow_len p.rules pre.length a b
      rw [Nat.succ_mul]
      omega
    generalize hpn : pre.length * p.rules.length = pn at *
    simp -implicitDefEqProofs only [W4, ↓D4, ↓DA, ↓DP, ↓DC, hlt, hw1, hx, enc_Rule, leaf_some, isNormal, ifEv_bool, SH, dedup, nodupB, idx, AV.rows, AV.rowss, AV.mapO, AV.mapOs, Int.reduceToNat, id_eq, Int.reduceBEq, Int.reduceLE, Int.reduceLT, Nat.reduceAdd, Nat.reduceEqDiff, Nat.reduceLT, Nat.reduceLeDiff, Nat.reduceMul, Nat.reduceSub, reduceIte]
    rw [ev_loop]
    refine loop_list (Q := fun g z => g = confRow p.rules pre.length a b → Leaf (thenEv E _ _ _ _ _ (outOf 1 (outOf 2 z))) _) p.rules (cStep pre.length a) id
      (fun j g => { sl := [(1, .ptr 0 0), (3, .own 0 false 44 2 (g.map (Conflict.enc true))), (4, .int .i64 (pre.length : Nat)), (5, .ptr 1 0), (10, .sl true (p.rules.map (Rule.enc true))), (11, .int .i64 (p.rules.length : Nat)), (12, .int .i64 (pre.length : Nat)), (18, .sl true (p.rules.map (Rule.enc true))), (19, .int .i64 (p.rules.length : Nat)), (20, .int .i64 (j : Nat))], bx := [(0, [.int .i64 p.version, .sl true (p.rules.map (Rule.enc true))]), (1, [.int .i64 a.effect, .int .i64 a.action, .int .i64 a.object, .int .i64 a.cond.op, .int .i64 a.cond.a, .int .i64 a.cond.b, .sl true (a.cond.args.map (Cond.enc true))])], nx := 3, nt := 54 })
      (fun j g => g.length ≤ pn + j) b ?_ ?_ ?_ (by omega) ?_ rfl
    · intro g hg
      simp -implicitDefEqProofs only [W4, ↓D4, ↓DA, ↓DP, ↓DC, leaf_some, isNormal, ifEv_bool, SH, dedup, nodupB, idx, AV.rows, AV.rowss, AV.mapO, AV.mapOs, Int.reduceToNat, id_eq, Int.reduceBEq, Int.reduceLE, Int.reduceLT, Nat.reduceAdd, Nat.reduceEqDiff, Nat.reduceLT, Nat.reduceLeDiff, Nat.reduceMul, Nat.reduceSub, reduceIte]
      intro he
      rw [hst]
      subst he
      simp -implicitDefEqProofs only [W3, ↓D3, ↓DA, ↓DP, ↓DC, QX, hw0, hI, SH, keep_7_3, leaf_some, isNormal, Int.reduceToNat, id_eq, Int.reduceBEq, Int.reduceLE, Int.reduceLT, Nat.reduceAdd, Nat.reduceEqDiff, Nat.reduceLT, Nat.reduceLeDiff, Nat.reduceMul, Nat.reduceSub, reduceIte]
      repeat' (split <;> (rename_i h; (try simp -implicitDefEqProofs only [Bool.not_eq_true', Bool.not_eq_false', decide_eq_true_eq, decide_eq_false_iff_not] at h); (try simp -implicitDefEqProofs only [W3, ↓D3, ↓DA, ↓DP, ↓DC, QX, *, hw0, hI, SH, keep_7_3, leaf_some, isNormal, Int.reduceToNat, id_eq, Int.reduceBEq, Int.reduceLE, Int.reduceLT, Nat.reduceAdd, Nat.reduceEqDiff, Nat.reduceLT, Nat.reduceLeDiff, Nat.reduceMul, Nat.reduceSub, reduceIte])))
    · intro pre2 c r2 g hs2 hg
      have hx := (at_row hs2 hs).1; have hc := (at_row hs2 hs).2.1; have hlt := (at_row hs2 hs).2.2.1; have hw1 := (at_row hs2 hs).2.2.2.1; have hl9 := (at_row hs2 hs).2.2.2.2
      clear hs2
      have c3 := c1 a c
      have c4 := c2 a c (hwm a hca) (hwm c hc)
      have hst2 : cStep pre.length a pre2.length c g = .inr (if ((((a.effect == 1) && (c.effect == 0)) && meet a c) && canBoth a.cond c.cond) = true then g ++ [⟨(pre.length : Nat), (pre2.length : Nat)⟩] else g) := rfl
      have hm1 : (g.length + 1) * 16 ≤ 140737488355328 := by omega
      have hm2 : g.length + 1 ≤ 9223372036854775807 := by omega
      have hm9 : g.length ≤ 9223372036854775806 := by omega
      have hm3 : g.length ≤ pn + (pre2.length + 1) := by omega
      have hm4 : (g ++ [(⟨(pre.length : Nat), (pre2.length : Nat)⟩ : Conflict)]).length ≤ pn + (pre2.length + 1) := by rw [List.length_append, List.length_singleton]; omega
      have hpl : plains [AV.agg [AV.int .i64 (pre.length : Nat), AV.int .i64 (pre2.length : Nat)]] = true := rfl
      clear c1 c2 hwm
      generalize meet a c = e3 at *
      generalize canBoth a.cond c.cond = e4 at *
      cases e1 : (a.effect == 1) with
      | false =>
        rw [e1] at hst2
        simp -implicitDefEqProofs only [Bool.false_and, Bool.false_eq_true, if_false] at hst2
        simp -implicitDefEqProofs only [W3, ↓D3, ↓DA, ↓DP, ↓DC, QX, enc_Rule, hx, hlt, hw1, e1, hst2, hm3, SH, keep_7_6, leaf_some, isNormal, Int.reduceToNat, id_eq, Int.reduceBEq, Int.reduceLE, Int.reduceLT, Nat.reduceAdd, Nat.reduceEqDiff, Nat.reduceLT, Nat.reduceLeDiff, Nat.reduceMul, Nat.reduceSub, reduceIte]
        repeat' (split <;> (rename_i h; (try simp -implicitDefEqProofs only [Bool.not_eq_true', Bool.not_eq_false', decide_eq_true_eq, decide_eq_false_iff_not] at h); (try simp -implicitDefEqProofs only [W3, ↓D3, ↓DA, ↓DP, ↓DC, QX, *, enc_Rule, hx, hlt, hw1, e1, hst2, hm3, SH, keep_7_6, leaf_some, isNormal, Int.reduceToNat, id_eq, Int.reduceBEq, Int.reduceLE, Int.reduceLT, Nat.reduceAdd, Nat.reduceEqDiff, Nat.reduceLT, Nat.reduceLeDiff, Nat.reduceMul, Nat.reduceSub, reduceIte])))
      | true =>
        cases e2 : (c.effect == 0) <;> cases e3 <;> cases e4
        all_goals
          rw [e1, e2] at hst2
          simp -implicitDefEqProofs only [Bool.true_and, Bool.and_true, Bool.false_and, Bool.and_false, Bool.and_self, Bool.false_eq_true, if_false, if_true] at hst2
          simp -implicitDefEqProofs only [W3, ↓D3, ↓DA, ↓DP, ↓DC, QX, enc_Rule, enc_Conflict, hx, hlt, hw1, e1, e2, c3, c4, hst2, hm1, hm2, hm9, hm3, hm4, hpl, List.map_append, SH, keep_7_6, leaf_some, isNormal, Int.reduceToNat, id_eq, Int.reduceBEq, Int.reduceLE, Int.reduceLT, Nat.reduceAdd, Nat.reduceEqDiff, Nat.reduceLT, Nat.reduceLeDiff, Nat.reduceMul, Nat.reduceSub, reduceIte]
          repeat' (split <;> (rename_i h; (try simp -implicitDefEqProofs only [Bool.not_eq_true', Bool.not_eq_false', decide_eq_true_eq, decide_eq_false_iff_not] at h); (try simp -implicitDefEqProofs only [W3, ↓D3, ↓DA, ↓DP, ↓DC, QX, *, enc_Rule, enc_Conflict, hx, hlt, hw1, e1, e2, c3, c4, hst2, hm1, hm2, hm9, hm3, hm4, hpl, List.map_append, SH, keep_7_6, leaf_some, isNormal, Int.reduceToNat, id_eq, Int.reduceBEq, Int.reduceLE, Int.reduceLT, Nat.reduceAdd, Nat.reduceEqDiff, Nat.reduceLT, Nat.reduceLeDiff, Nat.reduceMul, Nat.reduceSub, reduceIte])))
    · omega
    · simp -implicitDefEqProofs only [firstRegion]
      rw [keep_7_6]
      simp -implicitDefEqProofs only [W3, ↓D3, ↓DA, ↓DP, ↓DC, Int.reduceToNat, id_eq, Int.reduceBEq, Int.reduceLE, Int.reduceLT, SH, Nat.reduceAdd, Nat.reduceEqDiff, Nat.reduceLT, Nat.reduceLeDiff, Nat.reduceMul, Nat.reduceSub, reduceIte]
  · simp -implicitDefEqProofs only [firstRegion]
    rw [keep_7_3]
    simp -implicitDefEqProofs only [W3, ↓D3, ↓DA, ↓DP, ↓DC, Int.reduceToNat, id_eq, Int.reduceBEq, Int.reduceLE, Int.reduceLT, SH, Nat.reduceAdd, Nat.reduceEqDiff, Nat.reduceLT, Nat.reduceLeDiff, Nat.reduceMul, Nat.reduceSub, reduceIte]
end Go.Proofs.YtokjpncehggojaaGreat.Flat
