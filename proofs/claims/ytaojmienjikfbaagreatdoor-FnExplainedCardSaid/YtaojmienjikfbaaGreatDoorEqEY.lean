/-
A policy by the values of its atoms.
-/
import Derived.Test.YtaojmienjikfbaaGreatDoorEqV
import Derived.Test.YtaojmienjikfbaaGreatDoorEqPG
set_option linter.unusedVariables false
set_option linter.unusedSimpArgs false
set_option maxRecDepth 10000
namespace Go.Proofs.YtaojmienjikfbaaGreatDoor.Flat
def holdStep (f : Rule → Bool) (i : Nat) (r : Rule) (b : List Int) : Sum (List Int) (List Int) := .inr (if f r = true then b ++ [(i : Int)] else b)
def holdL (f : Rule → Bool) : Nat → List Rule → List Int
  | _, [] => []
  | i, r :: s => if f r = true then (i : Int) :: holdL f (i + 1) s else holdL f (i + 1) s
theorem holdLoop (f : Rule → Bool) : ∀ (s : List Rule) (i : Nat) (b : List Int), loopL (holdStep f) id i s b = b ++ holdL f i s
  | [], i, b => by simp [loopL, holdL]
  | r :: s, i, b => by
    simp -implicitDefEqProofs only [loopL, holdStep, holdL]
    rw [holdLoop f s]
    cases f r <;> simp
theorem holdL_length (f : Rule → Bool) : ∀ (s : List Rule) (i : Nat), (holdL f i s).length ≤ s.length
  | [], i => by simp [holdL]
  | r :: s, i => by
    have := holdL_length f s (i + 1)
    simp -implicitDefEqProofs only [holdL]
    split <;> simp <;> omega
theorem holdL_mem (f : Rule → Bool) : ∀ (s : List Rule) (i : Nat) (z : Int), z ∈ holdL f i s → ∃ j, z = ((i + j : Nat) : Int) ∧ j < s.length
  | [], i, z, h => by simp [holdL] at h
  | r :: s, i, z, h => by
    simp -implicitDefEqProofs only [holdL] at h
    have go : z ∈ holdL f (i + 1) s → ∃ j, z = ((i + j : Nat) : Int) ∧ j < (r :: s).length := fun h => by
      obtain ⟨j, h1, h2⟩ := holdL_mem f s (i + 1) z h
      exact ⟨j + 1, by omega, by simp; omega⟩
    split at h
    · rcases List.mem_cons.1 h with rfl | h
      · exact ⟨0, by simp, by simp⟩
      · exact go h
    · exact go h
def decStep (rules : List Rule) (_ : Nat) (z : Int) (out : Int) : Sum Int Int :=
  if ((rules.getD z.toNat default).effect == 0) = true then .inl 0 else if ((rules.getD z.toNat default).effect == 1) = true then .inr 1 else .inr out
def decided (rules : List Rule) (hold : List Int) : Int := loopL (decStep rules) id 0 hold 0
theorem r_impl_decided {fl f2 : Bool} (k : Nat) (hk : 281474976710656 + 1 ≤ k) (p : Policy) (h : List Int) (hp : p.rules.length ≤ 140737488355328) (hs : h.length ≤ 140737488355328) (hm : ∀ z ∈ h, ∃ j, z = ((j : Nat) : Int) ∧ j < p.rules.length) :
    run E noExt k 42 [p.enc fl, .sl f2 (h.map (AV.int .i64))] [] = some (.int .i64 (decided p.rules h), []) := by
  obtain ⟨k, rfl⟩ : ∃ j, k = j + 1 := ⟨k - 1, by omega⟩
  rw [run_succ rfl rfl, body_eq (nt := 26) (fn := Go.Proofs.Tryz.f42) (by kernel_rfl) rfl rfl rfl rfl rfl rfl rfl rfl]
  simp -implicitDefEqProofs only [W1, ↓D1, ↓DC, Go.Proofs.Tryz.f42, enc_Policy, Int.reduceToNat, id_eq, Int.reduceBEq, Int.reduceLE, Int.reduceLT, Nat.reduceAdd, Nat.reduceEqDiff, Nat.reduceLT, Nat.reduceLeDiff, Nat.reduceMul, Nat.reduceSub, reduceIte]
  rw [ev_loop]
  refine Eq.trans (loop_list (Q := fun g x => thenEnd E.P [] _ 0 (thenEv E _ _ _ _ _ (outOf 0 x)) = some (.int .i64 g, [])) (h) (decStep p.rules) (id)
    (fun i b => { sl := [(2, .ptr 0 0), (5, .int .i64 b), (8, .sl f2 (h.map (AV.int .i64))), (9, .int .i64 (h.length : Nat)), (10, .int .i64 (i : Nat))], bx := [(0, [.int .i64 p.version, .sl fl (p.rules.map (Rule.enc fl))])], nx := 1, nt := 26 }) (fun _ _ => True) (0) ?_ ?_ (by first | omega | (simp; omega)) (trivial) ?_) ?_
  · intro b _
    simp -implicitDefEqProofs only [W2, ↓D2, ↓DC, QX, leaf_some, isNormal, Int.reduceToNat, id_eq, Int.reduceBEq, Int.reduceLE, Int.reduceLT, Nat.reduceAdd, Nat.reduceEqDiff, Nat.reduceLT, Nat.reduceLeDiff, Nat.reduceMul, Nat.reduceSub, reduceIte]
    repeat' (split <;> (rename_i h; (try simp -implicitDefEqProofs only [Bool.not_eq_true', Bool.not_eq_false', decide_eq_true_eq, decide_eq_false_iff_not] at h); (try simp -implicitDefEqProofs only [W2, ↓D2, ↓DC, QX, *, leaf_some, isNormal, Int.reduceToNat, id_eq, Int.reduceBEq, Int.reduceLE, Int.reduceLT, Nat.reduceAdd, Nat.reduceEqDiff, Nat.reduceLT, Nat.reduceLeDiff, Nat.reduceMul, Nat.reduceSub, reduceIte])))
  · intro pre c r b hs' _
    have hx := (at_row hs' hs).1; have hc := (at_row hs' hs).2.1; have hlt := (at_row hs' hs).2.2.1; have hw1 := (at_row hs' hs).2.2.2.1; have hl9 := (at_row hs' hs).2.2.2.2
    clear hs'
    obtain ⟨j, rfl, hj⟩ := hm c hc
    have hr : p.rules[j]? = some (p.rules.getD j default) := by
      rw [List.getD_eq_getElem?_getD, List.getElem?_eq_getElem hj]; rfl
    simp -implicitDefEqProofs only [W2, ↓D2, ↓DC, QX, enc_Rule, hx, hlt, hw1, hr, decStep, keep_42_3, leaf_some, isNormal, Int.reduceToNat, id_eq, Int.reduceBEq, Int.reduceLE, Int.reduceLT, Nat.reduceAdd, Nat.reduceEqDiff, Nat.reduceLT, Nat.reduceLeDiff, Nat.reduceMul, Nat.reduceSub, reduceIte]
    repeat' (split <;> (rename_i h; (try simp -implicitDefEqProofs only [Bool.not_eq_true', Bool.not_eq_false', decide_eq_true_eq, decide_eq_false_iff_not] at h); (try simp -implicitDefEqProofs only [W2, ↓D2, ↓DC, QX, *, enc_Rule, hx, hlt, hw1, hr, decStep, keep_42_3, leaf_some, isNormal, Int.reduceToNat, id_eq, Int.reduceBEq, Int.reduceLE, Int.reduceLT, Nat.reduceAdd, Nat.reduceEqDiff, Nat.reduceLT, Nat.reduceLeDiff, Nat.reduceMul, Nat.reduceSub, reduceIte])))
  · simp -implicitDefEqProofs only [firstRegion]; rw [keep_42_3]; simp -implicitDefEqProofs only [W2, ↓D2, ↓DC, Int.reduceToNat, id_eq, Int.reduceBEq, Int.reduceLE, Int.reduceLT, Nat.reduceAdd, Nat.reduceEqDiff, Nat.reduceLT, Nat.reduceLeDiff, Nat.reduceMul, Nat.reduceSub, reduceIte]; first | done | rfl
  · rfl
def isRequest (q : Request) : Bool := hasKind q.person 1 && (hasKind q.device 2 && (hasKind q.program 3 && (hasKind q.object 4 && (inR q.action 0 5 && isT q.now))))
theorem r_impl_IsRequest {fl : Bool} (k : Nat) (hk : 281474976710656 + 5 ≤ k) (q : Request) : run E noExt k 31 [q.enc fl] [] = some (.bool (isRequest q), []) := by
  obtain ⟨k, rfl⟩ : ∃ j, k = j + 1 := ⟨k - 1, by omega⟩
  rw [run_succ rfl rfl, body_eq (nt := 31) (fn := Go.Proofs.Tryz.f31) (by kernel_rfl) rfl rfl rfl rfl rfl rfl rfl rfl]
  have c_impl_HasKind := r_impl_HasKind k (by omega)
  have c_impl_InRange := r_impl_InRange k (by omega)
  have c_impl_IsTime := r_impl_IsTime k (by omega)
  simp -implicitDefEqProofs only [W1, ↓D1, ↓DC, QX, Go.Proofs.Tryz.f31, c_impl_HasKind, c_impl_InRange, c_impl_IsTime, enc_Request, Int.reduceToNat, id_eq, Int.reduceBEq, Int.reduceLE, Int.reduceLT, Nat.reduceAdd, Nat.reduceEqDiff, Nat.reduceLT, Nat.reduceLeDiff, Nat.reduceMul, Nat.reduceSub, reduceIte]
  repeat' (split <;> (rename_i h; (try simp -implicitDefEqProofs only [Bool.not_eq_true', Bool.not_eq_false', decide_eq_true_eq, decide_eq_false_iff_not] at h); (try simp -implicitDefEqProofs only [W1, ↓D1, ↓DC, QX, *, c_impl_HasKind, c_impl_InRange, c_impl_IsTime, enc_Request, Int.reduceToNat, id_eq, Int.reduceBEq, Int.reduceLE, Int.reduceLT, Nat.reduceAdd, Nat.reduceEqDiff, Nat.reduceLT, Nat.reduceLeDiff, Nat.reduceMul, Nat.reduceSub, reduceIte])))
  all_goals simp -implicitDefEqProofs only [isRequest, *, Bool.true_and, Bool.false_and, Bool.and_true, Bool.and_false]
noncomputable def ruleAt (l : List Includes) (s : List Fact) (q : Request) (r : Rule) : Bool := isFor r q.action q.object && evalAt l s q r.cond
theorem r_impl_RulesThatHold {fl f2 f3 f4 : Bool} (k : Nat) (hk : 884940186000000 + 8 ≤ k) (l : List Includes) (hl : l.length ≤ 140737488355328) (s : List Fact) (hs : s.length ≤ 1099511627776) (p : Policy) (hp : p.w ≤ 1099511627776) (q : Request) :
    run E noExt k 33 [.sl fl (l.map (Includes.enc fl)), .sl f2 (s.map (Fact.enc f2)), p.enc f3, q.enc f4] [] = some (.own 0 false 3 1 ((holdL (ruleAt l s q) 0 p.rules).map (AV.int .i64)), []) := by
  unfold Policy.w at hp
  have hs1 := Nat.le_trans (wl_length _ p.rules) hp
  have c1 : ∀ r ∈ p.rules, run E noExt (k - 1) 57 [r.enc f3, .int .i64 q.action, .int .i64 q.object] [] = some (.bool (isFor r q.action q.object), []) := fun r _ => r_impl_IsFor _ (by omega) r _ _
  have c2 : ∀ r ∈ p.rules, run E noExt (k - 1) 58 [.sl fl (l.map (Includes.enc fl)), .sl f2 (s.map (Fact.enc f2)), r.cond.enc f3, q.enc f4] [] = some (.bool (evalAt l s q r.cond), []) :=
    fun r hr => r_impl_EvalCond _ (by omega) l hl s hs r.cond (by have h1 := wl_mem (w := Rule.w) hr; have h2 : r.cond.w = r.w := rfl; omega) q
  clear hs
  have hs : p.rules.length ≤ 140737488355328 := by omega
  obtain ⟨k, rfl⟩ : ∃ j, k = j + 1 := ⟨k - 1, by omega⟩
  rw [run_succ rfl rfl, body_eq (nt := 41) (fn := Go.Proofs.Tryz.f33) (by kernel_rfl) rfl rfl rfl rfl rfl rfl rfl rfl]
  simp -implicitDefEqProofs only [Nat.add_sub_cancel] at c1 c2
  simp -implicitDefEqProofs only [W3, ↓D3, ↓DA, ↓DP, ↓DC, Go.Proofs.Tryz.f33, enc_Policy, enc_Request, SH, Int.reduceToNat, id_eq, Int.reduceBEq, Int.reduceLE, Int.reduceLT, Nat.reduceAdd, Nat.reduceEqDiff, Nat.reduceLT, Nat.reduceLeDiff, Nat.reduceMul, Nat.reduceSub, reduceIte]
  rw [ev_loop]
  refine Eq.trans (loop_list (Q := fun g x => thenEnd E.P [] _ 0 (thenEv E _ _ _ _ _ (outOf 0 x)) = some (.own 0 false 3 1 (g.map (AV.int .i64)), [])) p.rules (holdStep (ruleAt l s q)) id
    (fun i b => { sl := [(0, .sl fl (l.map (Includes.enc fl))), (1, .sl f2 (s.map (Fact.enc f2))), (7, .ptr 0 0), (9, .own 0 false 3 1 (b.map (AV.int .i64))), (14, .sl f3 (p.rules.map (Rule.enc f3))), (15, .int .i64 (p.rules.length : Nat)), (16, .int .i64 (i : Nat))],
                  bx := [(0, [.int .i64 q.person, .int .i64 q.device, .int .i64 q.program, .int .i64 q.action, .int .i64 q.object, .int .i64 q.now])], nx := 2, nt := 41 }) (fun i b => b.length ≤ i) [] ?_ ?_ (by omega) (by simp) ?_) ?_
  · intro b _
    simp -implicitDefEqProofs only [W3, ↓D3, ↓DA, ↓DP, ↓DC, QX, SH, leaf_some, isNormal, Int.reduceToNat, id_eq, Int.reduceBEq, Int.reduceLE, Int.reduceLT, Nat.reduceAdd, Nat.reduceEqDiff, Nat.reduceLT, Nat.reduceLeDiff, Nat.reduceMul, Nat.reduceSub, reduceIte]
    repeat' (split <;> (rename_i h; (try simp -implicitDefEqProofs only [Bool.not_eq_true', Bool.not_eq_false', decide_eq_true_eq, decide_eq_false_iff_not] at h); (try simp -implicitDefEqProofs only [W3, ↓D3, ↓DA, ↓DP, ↓DC, QX, *, SH, leaf_some, isNormal, Int.reduceToNat, id_eq, Int.reduceBEq, Int.reduceLE, Int.reduceLT, Nat.reduceAdd, Nat.reduceEqDiff, Nat.reduceLT, Nat.reduceLeDiff, Nat.reduceMul, Nat.reduceSub, reduceIte])))
  · intro pre c r b hs' hb
    have hx := (at_row hs' hs).1; have hc := (at_row hs' hs).2.1; have hlt := (at_row hs' hs).2.2.1; have hw1 := (at_row hs' hs).2.2.2.1; have hl9 := (at_row hs' hs).2.2.2.2
    clear hs'
    have c3 := c1 c hc
    have c4 := c2 c hc
    simp -implicitDefEqProofs only [enc_Rule, enc_Cond, enc_Request] at c3 c4
    have hq : ruleAt l s q c = (isFor c q.action q.object && evalAt l s q c.cond) := rfl
    generalize evalAt l s q c.cond = b2 at c4 hq
    generalize isFor c q.action q.object = b1 at c3 hq
    have hm1 : (b.length + 1) * 8 ≤ 140737488355328 := by omega
    have hm2 : b.length + 1 ≤ 9223372036854775807 := by omega
    have hpl : plains [AV.int IntKind.i64 (pre.length : Int)] = true := rfl
    have hm3 : b.length ≤ pre.length + 1 := by omega
    have hm4 : (b ++ [((pre.length : Nat) : Int)]).length ≤ pre.length + 1 := by rw [List.length_append]; exact Nat.succ_le_succ hb
    clear c1 c2
    cases b1 <;> cases b2 <;> simp -implicitDefEqProofs only [Bool.and_self, Bool.and_false, Bool.and_true] at hq
    all_goals
      simp -implicitDefEqProofs only [W3, ↓D3, ↓DA, ↓DP, ↓DC, QX, enc_Rule, hx, hlt, hw1, c3, c4, hq, hm1, hm2, hm3, hm4, hpl, holdStep, List.map_append, SH, keep_33_3, leaf_some, isNormal, Int.reduceToNat, id_eq, Int.reduceBEq, Int.reduceLE, Int.reduceLT, Nat.reduceAdd, Nat.reduceEqDiff, Nat.reduceLT, Nat.reduceLeDiff, Nat.reduceMul, Nat.reduceSub, reduceIte]
      repeat' (split <;> (rename_i h; (try simp -implicitDefEqProofs only [Bool.not_eq_true', Bool.not_eq_false', decide_eq_true_eq, decide_eq_false_iff_not] at h); (try simp -implicitDefEqProofs only [W3, ↓D3, ↓DA, ↓DP, ↓DC, QX, *, enc_Rule, hx, hlt, hw1, c3, c4, hq, hm1, hm2, hm3, hm4, hpl, holdStep, List.map_append, SH, keep_33_3, leaf_some, isNormal, Int.reduceToNat, id_eq, Int.reduceBEq, Int.reduceLE, Int.reduceLT, Nat.reduceAdd, Nat.reduceEqDiff, Nat.reduceLT, Nat.reduceLeDiff, Nat.reduceMul, Nat.reduceSub, reduceIte])))
  · simp -implicitDefEqProofs only [firstRegion]; rw [keep_33_3]; simp -implicitDefEqProofs only [W2, ↓D2, ↓DC, Int.reduceToNat, id_eq, Int.reduceBEq, Int.reduceLE, Int.reduceLT, Nat.reduceAdd, Nat.reduceEqDiff, Nat.reduceLT, Nat.reduceLeDiff, Nat.reduceMul, Nat.reduceSub, reduceIte]; first | done | rfl
  · rw [holdLoop]; rfl
def decStepS (rules : List Rule) (_ : Nat) (z : Int) (_ : Unit) : Sum Int Unit := if ((rules.getD z.toNat default).effect == 0) = true then .inl 0 else .inr ()
theorem decS_eq (rules : List Rule) (hr : ∀ r ∈ rules, r.effect = 0 ∨ r.effect = 1) : ∀ (hold : List Int) (i j : Nat) (out : Int) (n : Nat), (∀ z ∈ hold, ∃ j, z = ((j : Nat) : Int) ∧ j < rules.length) → (out = if n = 0 then 0 else 1) →
    loopL (decStepS rules) (fun _ => if n + hold.length = 0 then (0 : Int) else 1) i hold () = loopL (decStep rules) id j hold out
  | [], i, j, out, n, _, ho => by simp -implicitDefEqProofs only [loopL, List.length_nil, Nat.add_zero, id_eq]; exact ho.symm
  | z :: h, i, j, out, n, hm, ho => by
    obtain ⟨q, rfl, hq⟩ := hm z (by simp)
    have hg : rules.getD ((q : Nat) : Int).toNat default = rules[q] := by simp [List.getD_eq_getElem?_getD, List.getElem?_eq_getElem hq]
    have ih := decS_eq rules hr h (i + 1) (j + 1) 1 (n + 1) (fun z hz => hm z (by simp [hz])) (by simp)
    simp -implicitDefEqProofs only [loopL, decStepS, decStep, hg]
    rcases hr _ (List.getElem_mem hq) with e | e
    · simp [e]
    · have e0 : (rules[q].effect == 0) = false := by simp [e]
      have e1 : (rules[q].effect == 1) = true := by simp [e]
      simp -implicitDefEqProofs only [e0, e1, Bool.false_eq_true, if_false, if_true]
      rw [← ih]
      congr 1
      funext _
      simp -implicitDefEqProofs only [List.length_cons]
      congr 1
      rw [eq_iff_iff]
      omega
noncomputable def decideBy (l : List Includes) (s : List Fact) (p : Policy) (q : Request) : Int := if (isRequest q && isPolicy p) = true then decided p.rules (holdL (ruleAt l s q) 0 p.rules) else 0
theorem r_impl_DecideBy {fl f2 f3 f4 : Bool} (k : Nat) (hk : 884940186000000 + 9 ≤ k) (l : List Includes) (hl : l.length ≤ 140737488355328) (s : List Fact) (hs : s.length ≤ 1099511627776) (p : Policy) (hp : p.w ≤ 1099511627776) (q : Request) :
    run E noExt k 22 [.sl fl (l.map (Includes.enc fl)), .sl f2 (s.map (Fact.enc f2)), p.enc f3, q.enc f4] [] = some (.int .i64 (decideBy l s p q), []) := by
  have hp0 := hp
  unfold Policy.w at hp0
  have hs1 := Nat.le_trans (wl_length _ p.rules) hp0
  have hh := holdL_length (ruleAt l s q) p.rules 0
  have c1 := r_impl_IsRequest (fl := f4) (k - 1) (by omega) q
  have c2 := r_impl_IsPolicy (fl := f3) (k - 1) (by omega) p hp
  have c3 := r_impl_RulesThatHold (fl := fl) (f2 := f2) (f3 := f3) (f4 := f4) (k - 1) (by omega) l hl s hs p hp q
  have c4 := r_impl_decided (fl := f3) (f2 := true) (k - 1) (by omega) p (holdL (ruleAt l s q) 0 p.rules) (by omega) (by omega) (fun z hz => by
    obtain ⟨j, h1, h2⟩ := holdL_mem _ _ _ _ hz
    exact ⟨j, by simpa using h1, h2⟩)
  unfold decideBy
  obtain ⟨k, rfl⟩ : ∃ j, k = j + 1 := ⟨k - 1, by omega⟩
  rw [run_succ rfl rfl, body_eq (nt := 24) (fn := Go.Proofs.Tryz.f22) (by kernel_rfl) rfl rfl rfl rfl rfl rfl rfl rfl]
  simp -implicitDefEqProofs only [Nat.add_sub_cancel, enc_Policy, enc_Request] at c1 c2 c3 c4
  generalize isRequest q = b1 at c1 ⊢
  generalize isPolicy p = b2 at c2 ⊢
  cases b1 with
  | false => simp -implicitDefEqProofs only [W3, ↓D3, ↓DA, ↓DP, ↓DC, QX, Go.Proofs.Tryz.f22, enc_Policy, enc_Request, c1, c2, SH, Int.reduceToNat, id_eq, Int.reduceBEq, Int.reduceLE, Int.reduceLT, Nat.reduceAdd, Nat.reduceEqDiff, Nat.reduceLT, Nat.reduceLeDiff, Nat.reduceMul, Nat.reduceSub, reduceIte]
  | true =>
    cases b2 with
    | false => simp -implicitDefEqProofs only [W3, ↓D3, ↓DA, ↓DP, ↓DC, QX, Go.Proofs.Tryz.f22, enc_Policy, enc_Request, c1, c2, SH, Int.reduceToNat, id_eq, Int.reduceBEq, Int.reduceLE, Int.reduceLT, Nat.reduceAdd, Nat.reduceEqDiff, Nat.reduceLT, Nat.reduceLeDiff, Nat.reduceMul, Nat.reduceSub, reduceIte]
    | true => simp -implicitDefEqProofs only [W3, ↓D3, ↓DA, ↓DP, ↓DC, QX, Go.Proofs.Tryz.f22, enc_Policy, enc_Request, c1, c2, c3, c4, scals_ints, plains_ints, plan_22_3, SH, Int.reduceToNat, id_eq, Int.reduceBEq, Int.reduceLE, Int.reduceLT, Nat.reduceAdd, Nat.reduceEqDiff, Nat.reduceLT, Nat.reduceLeDiff, Nat.reduceMul, Nat.reduceSub, reduceIte]
noncomputable def suffices_ (l : List Includes) (s : List Fact) (p : Policy) (q : Request) (keep : List Int) : Bool := decideBy l (onlyFacts s keep) p q == decideBy l s p q
theorem r_impl_Suffices {fl f2 f3 f4 f5 : Bool} (k : Nat) (hk : 884940186000000 + 10 ≤ k) (l : List Includes) (hl : l.length ≤ 140737488355328) (s : List Fact) (hs : s.length ≤ 1099511627776) (p : Policy) (hp : p.w ≤ 1099511627776) (q : Request) (keep : List Int) (hkp : keep.length ≤ 140737488355328) :
    run E noExt k 20 [.sl fl (l.map (Includes.enc fl)), .sl f2 (s.map (Fact.enc f2)), p.enc f3, q.enc f4, .sl f5 (keep.map (AV.int .i64))] [] = some (.bool (suffices_ l s p q keep), []) := by
  have c1 := r_impl_OnlyFacts (fl := f2) (f2 := f5) (k - 1) (by omega) s hs keep hkp
  have c2 := r_impl_DecideBy (fl := fl) (f2 := true) (f3 := f3) (f4 := f4) (k - 1) (by omega) l hl (onlyFacts s keep) (by have := onlyFacts_len s keep; omega) p hp q
  have c3 := r_impl_DecideBy (fl := fl) (f2 := f2) (f3 := f3) (f4 := f4) (k - 1) (by omega) l hl s (by omega) p hp q
  unfold suffices_
  obtain ⟨k, rfl⟩ : ∃ j, k = j + 1 := ⟨k - 1, by omega⟩
  rw [run_succ rfl rfl, body_eq (nt := 24) (fn := Go.Proofs.Tryz.f20) (by kernel_rfl) rfl rfl rfl rfl rfl rfl rfl rfl]
  simp -implicitDefEqProofs only [Nat.add_sub_cancel, enc_Policy, enc_Request] at c1 c2 c3
  simp -implicitDefEqProofs only [W3, ↓D3, ↓DA, ↓DP, ↓DC, Go.Proofs.Tryz.f20, enc_Policy, enc_Request, c1, c2, c3, scals_Fact, plains_Fact, rowss_Fact, boxess_Fact, mapOs_Fact, plan_20_1, ifEv_bool, SH, Int.reduceToNat, id_eq, Int.reduceBEq, Int.reduceLE, Int.reduceLT, Nat.reduceAdd, Nat.reduceEqDiff, Nat.reduceLT, Nat.reduceLeDiff, Nat.reduceMul, Nat.reduceSub, reduceIte]
noncomputable def isNeeded (l : List Includes) (s : List Fact) (p : Policy) (q : Request) (keep : List Int) (i : Int) : Bool :=
  (keep.any fun c => c == i) && (suffices_ l s p q keep && !suffices_ l s p q (withoutIdx keep i))
theorem r_impl_IsNeeded {fl f2 f3 f4 f5 : Bool} (k : Nat) (hk : 884940186000000 + 11 ≤ k) (l : List Includes) (hl : l.length ≤ 140737488355328) (s : List Fact) (hs : s.length ≤ 1099511627776) (p : Policy) (hp : p.w ≤ 1099511627776) (q : Request) (keep : List Int) (hkp : keep.length ≤ 1099511627776) (i : Int) :
    run E noExt k 21 [.sl fl (l.map (Includes.enc fl)), .sl f2 (s.map (Fact.enc f2)), p.enc f3, q.enc f4, .sl f5 (keep.map (AV.int .i64)), .int .i64 i] [] = some (.bool (isNeeded l s p q keep i), []) := by
  have c1 := r_slices_Contains_Int (fl := f5) (gl := f5) (k - 1) (by omega) keep (by omega) i
  rw [any_swap2] at c1
  have c2 := r_impl_WithoutIndex (fl := f5) (k - 1) (by omega) keep hkp i
  have c3 := r_impl_Suffices (fl := fl) (f2 := f2) (f3 := f3) (f4 := f4) (f5 := f5) (k - 1) (by omega) l hl s hs p hp q keep (by omega)
  have c4 := r_impl_Suffices (fl := fl) (f2 := f2) (f3 := f3) (f4 := f4) (f5 := true) (k - 1) (by omega) l hl s hs p hp q (withoutIdx keep i) (by have := withoutIdx_len keep i; omega)
  unfold isNeeded
  obtain ⟨k, rfl⟩ : ∃ j, k = j + 1 := ⟨k - 1, by omega⟩
  rw [run_succ rfl rfl, body_eq (nt := 35) (fn := Go.Proofs.Tryz.f21) (by kernel_rfl) rfl rfl rfl rfl rfl rfl rfl rfl]
  simp -implicitDefEqProofs only [Nat.add_sub_cancel, enc_Policy, enc_Request] at c1 c2 c3 c4
  generalize (keep.any fun c => c == i) = b1 at c1 ⊢
  generalize suffices_ l s p q keep = b2 at c3 ⊢
  generalize suffices_ l s p q (withoutIdx keep i) = b3 at c4 ⊢
  cases b1
  · simp -implicitDefEqProofs only [W3, ↓D3, ↓DA, ↓DP, ↓DC, QX, Go.Proofs.Tryz.f21, enc_Policy, enc_Request, c1, plan_21_1, SH, Int.reduceToNat, id_eq, Int.reduceBEq, Int.reduceLE, Int.reduceLT, Nat.reduceAdd, Nat.reduceEqDiff, Nat.reduceLT, Nat.reduceLeDiff, Nat.reduceMul, Nat.reduceSub, reduceIte]
  · cases b2
    · simp -implicitDefEqProofs only [W3, ↓D3, ↓DA, ↓DP, ↓DC, QX, Go.Proofs.Tryz.f21, enc_Policy, enc_Request, c1, c3, plan_21_1, SH, Int.reduceToNat, id_eq, Int.reduceBEq, Int.reduceLE, Int.reduceLT, Nat.reduceAdd, Nat.reduceEqDiff, Nat.reduceLT, Nat.reduceLeDiff, Nat.reduceMul, Nat.reduceSub, reduceIte]
    · cases b3
      all_goals simp -implicitDefEqProofs only [W3, ↓D3, ↓DA, ↓DP, ↓DC, QX, Go.Proofs.Tryz.f21, enc_Policy, enc_Request, c1, c2, c3, c4, scals_ints, plains_ints, plan_21_1, SH, Int.reduceToNat, id_eq, Int.reduceBEq, Int.reduceLE, Int.reduceLT, Nat.reduceAdd, Nat.reduceEqDiff, Nat.reduceLT, Nat.reduceLeDiff, Nat.reduceMul, Nat.reduceSub, reduceIte]
theorem withoutIdx_eq (s : List Int) (n : Int) : withoutIdx s n = s.filter fun c => !(c == n) := by
  have h : ∀ (s : List Int) (i : Nat) (b : List Int), loopL (woStep n) id i s b = b ++ s.filter fun c => !(c == n) := by
    intro s
    induction s with
    | nil => intro i b; simp [loopL]
    | cons c r ih =>
      intro i b
      simp -implicitDefEqProofs only [loopL, woStep]
      by_cases h : c = n
      · subst h; simp [ih]
      · simp [ih, h]
  simpa [withoutIdx] using h s 0 []
section
variable (suff : List Int → Bool)
def passR : List Int → List Int → List Int
  | [], suf => suf
  | x :: r, suf => if suff (r.reverse ++ suf) = true then passR r suf else passR r (x :: suf)
def pass (kl : List Int) : List Int := passR suff kl.reverse []
theorem passR_sub : ∀ (r suf : List Int), (passR suff r suf).Sublist (r.reverse ++ suf)
  | [], suf => by simp [passR]
  | x :: r, suf => by
    simp -implicitDefEqProofs only [passR, List.reverse_cons, List.append_assoc, List.singleton_append]
    split
    · exact (passR_sub r suf).trans (List.Sublist.append_left (List.sublist_cons_self _ _) _)
    · exact passR_sub r (x :: suf)
theorem pass_sub (kl : List Int) : (pass suff kl).Sublist kl := by
  have := passR_sub suff kl.reverse []
  simpa [pass] using this
theorem pass_same {kl : List Int} (h : ¬ (pass suff kl).length < kl.length) : pass suff kl = kl := (pass_sub suff kl).eq_of_length_le (by omega)
noncomputable def expl (kl : List Int) : List Int := if h : (pass suff kl).length < kl.length then expl (pass suff kl) else kl
termination_by kl.length
theorem expl_step {kl : List Int} (h : (pass suff kl).length < kl.length) : expl suff (pass suff kl) = expl suff kl := by rw [expl.eq_1 suff kl, dif_pos h]
theorem expl_end {kl : List Int} (h : ¬ (pass suff kl).length < kl.length) : expl suff kl = kl := by rw [expl, dif_neg h]
theorem expl_sub (kl : List Int) : (expl suff kl).Sublist kl := by
  induction h : kl.length using Nat.strongRecOn generalizing kl with
  | ind n ih =>
    by_cases hp : (pass suff kl).length < kl.length
    · rw [← expl_step suff hp]
      exact (ih _ (by omega) _ rfl).trans (pass_sub suff kl)
    · rw [expl_end suff hp]
      exact List.Sublist.refl _
def iStep (kl : List Int) (i : Nat) (x : Int) (suf : List Int) : Sum (List Int) (List Int) := .inr (if suff ((kl.reverse.drop (i + 1)).reverse ++ suf) = true then suf else x :: suf)
theorem iLoop (kl : List Int) : ∀ (r : List Int) (i : Nat) (suf : List Int), kl.reverse.drop i = r → loopL (iStep suff kl) id i r suf = passR suff r suf
  | [], i, suf, _ => rfl
  | x :: r, i, suf, h => by
    have h1 : kl.reverse.drop (i + 1) = r := by rw [← List.drop_drop, h]; rfl
    simp -implicitDefEqProofs only [loopL, iStep, passR, h1]
    rw [iLoop kl r (i + 1) _ h1]
    split <;> rfl
def Asc (kl : List Int) : Prop := kl.Pairwise (· < ·)
def below (kl : List Int) (m : Int) : List Int := kl.filter fun c => decide (c < m)
theorem asc_nodup {kl : List Int} (h : Asc kl) : kl.Nodup := h.imp fun h e => by omega
theorem asc_sub {kl l : List Int} (h : Asc kl) (hs : l.Sublist kl) : Asc l := List.Pairwise.sublist hs h
theorem without_mid {p q : List Int} {x : Int} (h : (p ++ x :: q).Nodup) : withoutIdx (p ++ x :: q) x = p ++ q := by
  rw [withoutIdx_eq, List.filter_append, List.filter_cons]
  have hp : ∀ c ∈ p, c ≠ x := fun c hc e => by
    subst e
    exact (List.nodup_append.1 h).2.2 c hc c (by simp) rfl
  have hq : ∀ c ∈ q, c ≠ x := fun c hc e => by
    subst e
    exact (List.nodup_cons.1 (List.nodup_append.1 h).2.1).1 hc
  have e1 : p.filter (fun c => !(c == x)) = p := List.filter_eq_self.2 fun c hc => by simpa using hp c hc
  have e2 : q.filter (fun c => !(c == x)) = q := List.filter_eq_self.2 fun c hc => by simpa using hq c hc
  rw [e1, e2]
  simp
def idxL (n : Nat) : List Int := (List.range n).map fun i => ((i : Nat) : Int)
theorem idxL_succ (n : Nat) : idxL (n + 1) = idxL n ++ [(n : Int)] := by simp [idxL, List.range_succ]
theorem idxL_len (n : Nat) : (idxL n).length = n := by simp [idxL]
theorem idxL_asc (n : Nat) : Asc (idxL n) := by
  unfold Asc idxL
  rw [List.pairwise_map]
  exact List.pairwise_lt_range.imp fun h => by show ((_ : Nat) : Int) < ((_ : Nat) : Int); omega
theorem idxL_in {n : Nat} {c : Int} (h : c ∈ idxL n) : 0 ≤ c ∧ c < (n : Nat) := by
  unfold idxL at h
  obtain ⟨i, hi, rfl⟩ := List.mem_map.1 h
  have := List.mem_range.1 hi
  omega
end
noncomputable def sufF (l : List Includes) (s : List Fact) (p : Policy) (q : Request) (kp : List Int) : Bool := suffices_ l s p q kp
noncomputable def explain (l : List Includes) (s : List Fact) (p : Policy) (q : Request) : List Int := expl (sufF l s p q) (idxL s.length)
noncomputable def iNxt (f : List Int → Bool) (kl : List Int) : Option (List Int) := if (pass f kl).length < kl.length then some (pass f kl) else none
set_option maxHeartbeats 8000000 in
theorem r_impl_ExplainFacts (k : Nat) (hk : 884940186000000 + 20 ≤ k) (l : List Includes) (hl : l.length ≤ 140737488355328) (s : List Fact) (hs0 : s.length ≤ 1099511627776) (p : Policy) (hp : p.w ≤ 1099511627776) (q : Request) :
    run E noExt k 19 [.sl true (l.map (Includes.enc true)), .sl true (s.map (Fact.enc true)), p.enc true, q.enc true] [] = some (.own 0 false 3 1 ((explain l s p q).map (AV.int .i64)), []) := by
  have hs : s.length ≤ 140737488355328 := by omega
  have c1 := fun kp hkp x => r_impl_WithoutIndex (fl := true) (k - 1) (by omega) kp hkp x
  have c2 := fun kp hkp => r_impl_Suffices (fl := true) (f2 := true) (f3 := true) (f4 := true) (f5 := true) (k - 1) (by omega) l hl s hs0 p hp q kp hkp
  have e2 : ∀ kp, suffices_ l s p q kp = sufF l s p q kp := fun _ => rfl
  simp -implicitDefEqProofs only [e2] at c2
  unfold explain
  obtain ⟨k, rfl⟩ : ∃ j, k = j + 1 := ⟨k - 1, by omega⟩
  rw [run_succ rfl rfl, body_eq (nt := 52) (fn := Go.Proofs.Tryz.f19) (by kernel_rfl) rfl rfl rfl rfl rfl rfl rfl rfl]
  simp -implicitDefEqProofs only [Nat.add_sub_cancel, enc_Policy, enc_Request] at c1 c2
  simp -implicitDefEqProofs only [W4, ↓D4, ↓DA, ↓DP, ↓DC, Go.Proofs.Tryz.f19, enc_Policy, enc_Request, SH, dedup, nodupB, idx, AV.rows, AV.rowss, AV.mapO, AV.mapOs, Int.reduceToNat, id_eq, Int.reduceBEq, Int.reduceLE, Int.reduceLT, Nat.reduceAdd, Nat.reduceEqDiff, Nat.reduceLT, Nat.reduceLeDiff, Nat.reduceMul, Nat.reduceSub, reduceIte]
  rw [ev_loop]
  refine loop_list (Q := fun (_ : Unit) z => thenEnd E.P _ _ 0 (thenEv E _ _ _ _ _ (outOf 0 z)) = some (.own 0 false 3 1 ((expl (sufF l s p q) (idxL s.length)).map (AV.int .i64)), [])) s (fun _ _ _ => .inr ()) id
    (fun i _ => { sl := [(0, .sl true (l.map (Includes.enc true))), (1, .sl true (s.map (Fact.enc true))), (6, .ptr 0 0), (7, .ptr 1 0), (9, .own 0 false 3 1 ((idxL i).map (AV.int .i64))), (16, .int .i64 (s.length : Nat)), (17, .int .i64 (i : Nat))], bx := [(0, [.int .i64 p.version, .sl true (p.rules.map (Rule.enc true))]), (1, [.int .i64 q.person, .int .i64 q.device, .int .i64 q.program, .int .i64 q.action, .int .i64 q.object, .int .i64 q.now])], nx := 3, nt := 52 })
    (fun _ _ => True) () ?_ ?_ ?_ trivial ?_
  · intro _ _
    simp -implicitDefEqProofs only [W4, ↓D4, ↓DA, ↓DP, ↓DC, leaf_some, isNormal, ifEv_bool, SH, dedup, nodupB, idx, AV.rows, AV.rowss, AV.mapO, AV.mapOs, Int.reduceToNat, id_eq, Int.reduceBEq, Int.reduceLE, Int.reduceLT, Nat.reduceAdd, Nat.reduceEqDiff, Nat.reduceLT, Nat.reduceLeDiff, Nat.reduceMul, Nat.reduceSub, reduceIte]
    rw [ev_loop]
    generalize hkl : idxL s.length = kl0
    have hA : Asc kl0 := by rw [← hkl]; exact idxL_asc _
    have hL : kl0.length ≤ 1099511627776 := by rw [← hkl, idxL_len]; omega
    clear hkl
    refine loop_while (Q := fun (g : List Int) z => thenEnd E.P _ _ 0 (outOf 2 z) = some (.own 0 false 3 1 (g.map (AV.int .i64)), [])) (iNxt (sufF l s p q)) (expl (sufF l s p q))
      (fun kl => { sl := [(0, .sl true (l.map (Includes.enc true))), (1, .sl true (s.map (Fact.enc true))), (6, .ptr 0 0), (7, .ptr 1 0), (9, .own 0 false 3 1 (kl.map (AV.int .i64)))], bx := [(0, [.int .i64 p.version, .sl true (p.rules.map (Rule.enc true))]), (1, [.int .i64 q.person, .int .i64 q.device, .int .i64 q.program, .int .i64 q.action, .int .i64 q.object, .int .i64 q.now])], nx := 3, nt := 52 })
      (fun kl => Asc kl ∧ kl.length ≤ 1099511627776) (fun kl => kl.length) kl0 ?_ ?_ ?_ ⟨hA, hL⟩ ?_
    · intro kl ⟨hk1, hk2⟩
      have hw1 : IntKind.i64.wrap ((kl.length : Int) - 1) = (kl.length : Int) - 1 := IntWalk.i64_in _ (by omega)
      simp -implicitDefEqProofs only [W4, ↓D4, ↓DA, ↓DP, ↓DC, hw1, leaf_some, isNormal, ifEv_bool, SH, dedup, nodupB, idx, AV.rows, AV.rowss, AV.mapO, AV.mapOs, Int.reduceToNat, id_eq, Int.reduceBEq, Int.reduceLE, Int.reduceLT, Nat.reduceAdd, Nat.reduceEqDiff, Nat.reduceLT, Nat.reduceLeDiff, Nat.reduceMul, Nat.reduceSub, reduceIte]
      rw [ev_loop]
      refine loop_list (Q := fun g z => g = pass (sufF l s p q) kl → Leaf (outOf 3 (thenEv E _ _ _ _ _ (outOf 4 z))) _) kl.reverse (iStep (sufF l s p q) kl) id
        (fun i suf => { sl := [(0, .sl true (l.map (Includes.enc true))), (1, .sl true (s.map (Fact.enc true))), (6, .ptr 0 0), (7, .ptr 1 0), (9, .own 0 false 3 1 (((kl.reverse.drop i).reverse ++ suf).map (AV.int .i64))), (11, .int .i64 (kl.length : Nat)), (12, .int .i64 ((kl.length : Int) - 1 - (i : Nat)))], bx := [(0, [.int .i64 p.version, .sl true (p.rules.map (Rule.enc true))]), (1, [.int .i64 q.person, .int .i64 q.device, .int .i64 q.program, .int .i64 q.action, .int .i64 q.object, .int .i64 q.now])], nx := 3, nt := 52 })
        (fun i suf => ((kl.reverse.drop i).reverse ++ suf).Sublist kl) [] ?_ ?_ ?_ (by simp) ?_ (iLoop (sufF l s p q) kl kl.reverse 0 [] rfl)
      · intro suf hsub
        have hdr : kl.reverse.drop kl.length = [] := List.drop_of_length_le (by simp)
        have hneg : decide ((kl.length : Int) - 1 - ((kl.length : Nat) : Int) ≥ 0) = false := decide_eq_false (by omega)
        simp -implicitDefEqProofs only [W4, ↓D4, ↓DA, ↓DP, ↓DC, List.length_reverse, hdr, hneg, leaf_some, isNormal, ifEv_bool, List.reverse_nil, SH, dedup, nodupB, idx, AV.rows, AV.rowss, AV.mapO, AV.mapOs, Int.reduceToNat, id_eq, Int.reduceBEq, Int.reduceLE, Int.reduceLT, Nat.reduceAdd, Nat.reduceEqDiff, Nat.reduceLT, Nat.reduceLeDiff, Nat.reduceMul, Nat.reduceSub, reduceIte]
        intro he
        subst he
        by_cases h : (pass (sufF l s p q) kl).length < kl.length
        · have hb : (((pass (sufF l s p q) kl).length : Int) == (kl.length : Int)) = false := by rw [beq_eq_false_iff_ne]; omega
          have hn : iNxt (sufF l s p q) kl = some (pass (sufF l s p q) kl) := if_pos h
          rw [hn]
          simp -implicitDefEqProofs only [W3, ↓D3, ↓DA, ↓DP, ↓DC, QX, hb, SH, keep_19_7, leaf_some, isNormal, Int.reduceToNat, id_eq, Int.reduceBEq, Int.reduceLE, Int.reduceLT, Nat.reduceAdd, Nat.reduceEqDiff, Nat.reduceLT, Nat.reduceLeDiff, Nat.reduceMul, Nat.reduceSub, reduceIte]
          repeat' (split <;> (rename_i h; (try simp -implicitDefEqProofs only [Bool.not_eq_true', Bool.not_eq_false', decide_eq_true_eq, decide_eq_false_iff_not] at h); (try simp -implicitDefEqProofs only [W3, ↓D3, ↓DA, ↓DP, ↓DC, QX, *, hb, SH, keep_19_7, leaf_some, isNormal, Int.reduceToNat, id_eq, Int.reduceBEq, Int.reduceLE, Int.reduceLT, Nat.reduceAdd, Nat.reduceEqDiff, Nat.reduceLT, Nat.reduceLeDiff, Nat.reduceMul, Nat.reduceSub, reduceIte])))
        · have hsame := pass_same (sufF l s p q) h
          have hn : iNxt (sufF l s p q) kl = none := if_neg h
          rw [hn, expl_end _ h, hsame]
          have hb : ((kl.length : Int) == (kl.length : Int)) = true := by simp
          simp -implicitDefEqProofs only [W3, ↓D3, ↓DA, ↓DP, ↓DC, QX, hb, SH, keep_19_7, leaf_some, isNormal, Int.reduceToNat, id_eq, Int.reduceBEq, Int.reduceLE, Int.reduceLT, Nat.reduceAdd, Nat.reduceEqDiff, Nat.reduceLT, Nat.reduceLeDiff, Nat.reduceMul, Nat.reduceSub, reduceIte]
          repeat' (split <;> (rename_i h; (try simp -implicitDefEqProofs only [Bool.not_eq_true', Bool.not_eq_false', decide_eq_true_eq, decide_eq_false_iff_not] at h); (try simp -implicitDefEqProofs only [W3, ↓D3, ↓DA, ↓DP, ↓DC, QX, *, hb, SH, keep_19_7, leaf_some, isNormal, Int.reduceToNat, id_eq, Int.reduceBEq, Int.reduceLE, Int.reduceLT, Nat.reduceAdd, Nat.reduceEqDiff, Nat.reduceLT, Nat.reduceLeDiff, Nat.reduceMul, Nat.reduceSub, reduceIte])))
      · intro pre x r suf hs' hsub
        have hd : kl.reverse.drop pre.length = x :: r := by rw [hs']; simp
        have hd1 : kl.reverse.drop (pre.length + 1) = r := by rw [hs']; simp
        have hlen : pre.length + (r.length + 1) = kl.length := by have := congrArg List.length hs'; simp at this; omega
        have hk9 : (kl.reverse.drop pre.length).reverse ++ suf = r.reverse ++ x :: suf := by rw [hd]; simp
        have hk10 : (kl.reverse.drop (pre.length + 1)).reverse = r.reverse := by rw [hd1]
        rw [hk9] at hsub
        have hnd := asc_nodup (asc_sub hk1 hsub)
        have hwi := without_mid hnd
        have hkl := hsub.length_le
        have c3 := c1 (r.reverse ++ x :: suf) (by omega) x
        rw [hwi] at c3
        have hsub2 : (r.reverse ++ suf).Sublist kl := (List.Sublist.append_left (List.sublist_cons_self _ _) _).trans hsub
        have hkl2 := hsub2.length_le
        have c4 := c2 (r.reverse ++ suf) (by omega)
        have hst : iStep (sufF l s p q) kl pre.length x suf = .inr (if sufF l s p q (r.reverse ++ suf) = true then suf else x :: suf) := by unfold iStep; rw [hd1]
        have hx : ((r.reverse ++ x :: suf).map (AV.int .i64))[r.length]? = some (.int .i64 x) := by
          rw [List.getElem?_map, List.getElem?_append_right (by simp)]
          simp
        have hcnt : (kl.length : Int) - 1 - ((pre.length : Nat) : Int) = ((r.length : Nat) : Int) := by omega
        have hcn1 : IntKind.i64.wrap (((r.length : Nat) : Int) - 1) = (kl.length : Int) - 1 - ((pre.length + 1 : Nat) : Int) := by rw [IntWalk.i64_in _ (by omega)]; omega
        have hge : decide (((r.length : Nat) : Int) ≥ 0) = true := decide_eq_true (by omega)
        have hlt : ((r.length : Nat) : Int) < (((r.reverse ++ x :: suf).length : Nat) : Int) := by rw [List.length_append, List.length_reverse, List.length_cons]; omega
        clear c1 c2 hs' hd hd1 hwi hnd
        generalize sufF l s p q (r.reverse ++ suf) = e at *
        cases e <;> simp -implicitDefEqProofs only [Bool.false_eq_true, if_false, if_true] at hst
        · simp -implicitDefEqProofs only [W3, ↓D3, ↓DA, ↓DP, ↓DC, hk9, hk10, hcnt, hcn1, hge, hlt, hx, c3, c4, hst, leaf_some, isNormal, ifEv_bool, scals_ints, if_false, if_true, SH, keep_19_9, Int.reduceToNat, id_eq, Int.reduceBEq, Int.reduceLE, Int.reduceLT, Nat.reduceAdd, Nat.reduceEqDiff, Nat.reduceLT, Nat.reduceLeDiff, Nat.reduceMul, Nat.reduceSub, reduceIte]
          exact hsub
        · simp -implicitDefEqProofs only [W3, ↓D3, ↓DA, ↓DP, ↓DC, hk9, hk10, hcnt, hcn1, hge, hlt, hx, c3, c4, hst, leaf_some, isNormal, ifEv_bool, scals_ints, if_false, if_true, SH, keep_19_9, Int.reduceToNat, id_eq, Int.reduceBEq, Int.reduceLE, Int.reduceLT, Nat.reduceAdd, Nat.reduceEqDiff, Nat.reduceLT, Nat.reduceLeDiff, Nat.reduceMul, Nat.reduceSub, reduceIte]
          exact hsub2
      · simp; omega
      · simp -implicitDefEqProofs only [firstRegion]
        rw [keep_19_9]
        simp -implicitDefEqProofs only [W3, ↓D3, ↓DA, ↓DP, ↓DC, List.reverse_reverse, Int.sub_zero, Int.reduceToNat, id_eq, Int.reduceBEq, Int.reduceLE, Int.reduceLT, SH, Nat.reduceAdd, Nat.reduceEqDiff, Nat.reduceLT, Nat.reduceLeDiff, Nat.reduceMul, Nat.reduceSub, reduceIte]
    · intro kl b' ⟨hk1, hk2⟩ hx
      unfold iNxt at hx
      split at hx
      · rename_i h
        obtain rfl := Option.some.inj hx
        exact ⟨⟨asc_sub hk1 (pass_sub _ _), by omega⟩, h, expl_step _ h⟩
      · simp at hx
    · omega
    · simp -implicitDefEqProofs only [firstRegion]
      rw [keep_19_7]
      simp -implicitDefEqProofs only [W3, ↓D3, ↓DA, ↓DP, ↓DC, Int.reduceToNat, id_eq, Int.reduceBEq, Int.reduceLE, Int.reduceLT, SH, Nat.reduceAdd, Nat.reduceEqDiff, Nat.reduceLT, Nat.reduceLeDiff, Nat.reduceMul, Nat.reduceSub, reduceIte]
  · intro pre x r _ hs' _
    have hx := (at_row hs' hs).1; have hc := (at_row hs' hs).2.1; have hlt := (at_row hs' hs).2.2.1; have hw1 := (at_row hs' hs).2.2.2.1; have hl9 := (at_row hs' hs).2.2.2.2
    clear hs'
    have hu := idxL_succ pre.length
    have hul := idxL_len pre.length
    have hm1 : ((idxL pre.length).length + 1) * 8 ≤ 140737488355328 := by omega
    have hm2 : (idxL pre.length).length + 1 ≤ 9223372036854775807 := by omega
    have hm9 : (idxL pre.length).length ≤ 9223372036854775806 := by omega
    have hpl : plains [AV.int IntKind.i64 (pre.length : Int)] = true := rfl
    simp -implicitDefEqProofs only [W3, ↓D3, ↓DA, ↓DP, ↓DC, QX, hlt, hw1, hu, hm1, hm2, hm9, hpl, List.map_append, SH, keep_19_3, leaf_some, isNormal, Int.reduceToNat, id_eq, Int.reduceBEq, Int.reduceLE, Int.reduceLT, Nat.reduceAdd, Nat.reduceEqDiff, Nat.reduceLT, Nat.reduceLeDiff, Nat.reduceMul, Nat.reduceSub, reduceIte]
    repeat' (split <;> (rename_i h; (try simp -implicitDefEqProofs only [Bool.not_eq_true', Bool.not_eq_false', decide_eq_true_eq, decide_eq_false_iff_not] at h); (try simp -implicitDefEqProofs only [W3, ↓D3, ↓DA, ↓DP, ↓DC, QX, *, hlt, hw1, hu, hm1, hm2, hm9, hpl, List.map_append, SH, keep_19_3, leaf_some, isNormal, Int.reduceToNat, id_eq, Int.reduceBEq, Int.reduceLE, Int.reduceLT, Nat.reduceAdd, Nat.reduceEqDiff, Nat.reduceLT, Nat.reduceLeDiff, Nat.reduceMul, Nat.reduceSub, reduceIte])))
  · omega
  · simp -implicitDefEqProofs only [firstRegion]
    rw [keep_19_3]
    have hu0 : idxL 0 = [] := rfl
    simp -implicitDefEqProofs only [W3, ↓D3, ↓DA, ↓DP, ↓DC, hu0, Int.reduceToNat, id_eq, Int.reduceBEq, Int.reduceLE, Int.reduceLT, SH, Nat.reduceAdd, Nat.reduceEqDiff, Nat.reduceLT, Nat.reduceLeDiff, Nat.reduceMul, Nat.reduceSub, reduceIte]
section
variable {suff : List Int → Bool}
theorem passR_suff : ∀ (r suf : List Int), suff (r.reverse ++ suf) = true → suff (passR suff r suf) = true
  | [], suf, h => h
  | x :: r, suf, h => by
    simp -implicitDefEqProofs only [passR]
    split
    · rename_i hs
      exact passR_suff r suf hs
    · refine passR_suff r (x :: suf) ?_
      rw [List.reverse_cons, List.append_assoc] at h
      exact h
theorem pass_suff {kl : List Int} (h : suff kl = true) : suff (pass suff kl) = true := by
  unfold pass
  refine passR_suff _ _ ?_
  rw [List.reverse_reverse, List.append_nil]
  exact h
theorem expl_suff (kl : List Int) (h : suff kl = true) : suff (expl suff kl) = true := by
  by_cases hl : (pass suff kl).length < kl.length
  · rw [← expl_step suff hl]
    exact expl_suff (pass suff kl) (pass_suff h)
  · rw [expl_end suff hl]
    exact h
termination_by kl.length
theorem passR_len : ∀ (r suf : List Int), (passR suff r suf).length ≤ r.length + suf.length := fun r suf => by
  have := (passR_sub suff r suf).length_le
  simpa using this
theorem passR_keep : ∀ (r suf : List Int), (passR suff r suf).length = r.length + suf.length → ∀ a x b, r = a ++ x :: b → suff (b.reverse ++ (a.reverse ++ suf)) = false
  | [], suf, _, a, x, b, e => by simp at e
  | y :: r, suf, h, a, x, b, e => by
    simp -implicitDefEqProofs only [passR] at h
    have hs : suff (r.reverse ++ suf) = false := by
      cases hs : suff (r.reverse ++ suf)
      · rfl
      · rw [if_pos hs] at h
        have := passR_len (suff := suff) r suf
        simp -implicitDefEqProofs only [List.length_cons] at h
        omega
    rw [if_neg (by rw [hs]; simp)] at h
    cases a with
    | nil =>
      obtain ⟨rfl, rfl⟩ := List.cons.inj e
      exact hs
    | cons z a =>
      obtain ⟨rfl, e2⟩ := List.cons.inj e
      have := passR_keep r (y :: suf) (by rw [h]; simp -implicitDefEqProofs only [List.length_cons]; omega) a x b e2
      rw [List.reverse_cons, List.append_assoc]
      exact this
theorem expl_stuck (kl : List Int) : pass suff (expl suff kl) = expl suff kl := by
  by_cases hl : (pass suff kl).length < kl.length
  · rw [← expl_step suff hl]
    exact expl_stuck (pass suff kl)
  · rw [expl_end suff hl]
    exact pass_same suff hl
termination_by kl.length
theorem expl_needs {kl : List Int} (hk : kl.Nodup) {x : Int} (hx : x ∈ expl suff kl) : suff (withoutIdx (expl suff kl) x) = false := by
  have hst := expl_stuck (suff := suff) kl
  have hnd : (expl suff kl).Nodup := hk.sublist (expl_sub suff kl)
  generalize expl suff kl = e at *
  obtain ⟨p, q, rfl⟩ := List.append_of_mem hx
  rw [without_mid hnd]
  have := passR_keep (suff := suff) (p ++ x :: q).reverse [] (by
    have := congrArg List.length hst
    unfold pass at this
    rw [this]; simp; omega) q.reverse x p.reverse (by simp)
  simpa using this
end
theorem only_all (s : List Fact) : onlyFacts s (idxL s.length) = s := by
  unfold onlyFacts
  have key : ∀ (r pre : List Fact), s = pre ++ r → loopL (onlyStep (idxL s.length)) id pre.length r pre = s := by
    intro r
    induction r with
    | nil => intro pre h; simp at h; simp [loopL, h]
    | cons f r ih =>
      intro pre h
      have hin : ((idxL s.length).any fun c => c == ((pre.length : Nat) : Int)) = true := by
        refine List.any_eq_true.2 ⟨((pre.length : Nat) : Int), ?_, by simp⟩
        unfold idxL
        refine List.mem_map.2 ⟨pre.length, List.mem_range.2 ?_, rfl⟩
        rw [h]; simp
      simp -implicitDefEqProofs only [loopL, onlyStep, hin, if_true]
      have := ih (pre ++ [f]) (by rw [h]; simp)
      simpa using this
  exact key s [] rfl
theorem explain_suff (l : List Includes) (s : List Fact) (p : Policy) (q : Request) : suffices_ l s p q (explain l s p q) = true := by
  refine expl_suff (suff := sufF l s p q) _ ?_
  unfold sufF suffices_
  rw [only_all]
  simp
theorem explain_needs (l : List Includes) (s : List Fact) (p : Policy) (q : Request) {x : Int} (hx : x ∈ explain l s p q) : suffices_ l s p q (withoutIdx (explain l s p q) x) = false :=
  expl_needs (suff := sufF l s p q) (asc_nodup (idxL_asc _)) hx
theorem explain_in (l : List Includes) (s : List Fact) (p : Policy) (q : Request) {x : Int} (hx : x ∈ explain l s p q) : 0 ≤ x ∧ x < (s.length : Nat) := idxL_in ((expl_sub _ _).subset hx)
theorem explain_asc (l : List Includes) (s : List Fact) (p : Policy) (q : Request) : Asc (explain l s p q) := asc_sub (idxL_asc _) (expl_sub _ _)
end Go.Proofs.YtaojmienjikfbaaGreatDoor.Flat
