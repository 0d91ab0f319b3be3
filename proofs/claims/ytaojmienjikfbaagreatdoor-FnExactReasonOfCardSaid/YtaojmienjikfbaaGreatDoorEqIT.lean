/-
Which rules hold, and what a policy decides.
-/
import Derived.Test.YtaojmienjikfbaaGreatDoorEqP
import Derived.Test.YtaojmienjikfbaaGreatDoorEqA
import Derived.Test.YtaojmienjikfbaaGreatDoorFlatM4
set_option linter.unusedVariables false
set_option linter.unusedSimpArgs false
set_option maxRecDepth 10000
namespace Go.Proofs.YtaojmienjikfbaaGreatDoor.Flat
def isRequest (q : Request) : Bool := hasKind q.person 1 && (hasKind q.device 2 && (hasKind q.program 3 && (hasKind q.object 4 && (inR q.action 0 5 && isT q.now))))
theorem r_spec_IsRequest {fl : Bool} (k : Nat) (hk : 281474976710656 + 5 ≤ k) (q : Request) : run E noExt k 24 [q.enc fl] [] = some (.bool (isRequest q), []) := by
  obtain ⟨k, rfl⟩ : ∃ j, k = j + 1 := ⟨k - 1, by omega⟩
  rw [run_succ rfl rfl, body_eq (nt := 31) (fn := Go.Proofs.Tryz.f24) (by kernel_rfl) rfl rfl rfl rfl rfl rfl rfl rfl]
  have c_spec_HasKind := r_spec_HasKind k (by omega)
  have c_spec_l1In := r_spec_l1In k (by omega)
  have c_spec_IsTime := r_spec_IsTime k (by omega)
  simp -implicitDefEqProofs only [W1, ↓D1, ↓DC, QX, Go.Proofs.Tryz.f24, c_spec_HasKind, c_spec_l1In, c_spec_IsTime, enc_Request, Int.reduceToNat, id_eq, Int.reduceBEq, Int.reduceLE, Int.reduceLT, Nat.reduceAdd, Nat.reduceEqDiff, Nat.reduceLT, Nat.reduceLeDiff, Nat.reduceMul, Nat.reduceSub, reduceIte]
  repeat' (split <;> (rename_i h; (try simp -implicitDefEqProofs only [Bool.not_eq_true', Bool.not_eq_false', decide_eq_true_eq, decide_eq_false_iff_not] at h); (try simp -implicitDefEqProofs only [W1, ↓D1, ↓DC, QX, *, c_spec_HasKind, c_spec_l1In, c_spec_IsTime, enc_Request, Int.reduceToNat, id_eq, Int.reduceBEq, Int.reduceLE, Int.reduceLT, Nat.reduceAdd, Nat.reduceEqDiff, Nat.reduceLT, Nat.reduceLeDiff, Nat.reduceMul, Nat.reduceSub, reduceIte])))
  all_goals simp -implicitDefEqProofs only [isRequest, *, Bool.true_and, Bool.false_and, Bool.and_true, Bool.and_false]
theorem r_impl_IsRequest {fl : Bool} (k : Nat) (hk : 281474976710656 + 5 ≤ k) (q : Request) : run E noExt k 31 [q.enc fl] [] = some (.bool (isRequest q), []) := by
  obtain ⟨k, rfl⟩ : ∃ j, k = j + 1 := ⟨k - 1, by omega⟩
  rw [run_succ rfl rfl, body_eq (nt := 31) (fn := Go.Proofs.Tryz.f31) (by kernel_rfl) rfl rfl rfl rfl rfl rfl rfl rfl]
  have c_impl_HasKind := r_impl_HasKind k (by omega)
  have c_impl_InRange := r_impl_InRange k (by omega)
  have c_impl_IsTime := r_impl_IsTime k (by omega)
  simp -implicitDefEqProofs only [W1, ↓D1, ↓DC, QX, Go.Proofs.Tryz.f31, c_impl_HasKind, c_impl_InRange, c_impl_IsTime, enc_Request, Int.reduceToNat, id_eq, Int.reduceBEq, Int.reduceLE, Int.reduceLT, Nat.reduceAdd, Nat.reduceEqDiff, Nat.reduceLT, Nat.reduceLeDiff, Nat.reduceMul, Nat.reduceSub, reduceIte]
  repeat' (split <;> (rename_i h; (try simp -implicitDefEqProofs only [Bool.not_eq_true', Bool.not_eq_false', decide_eq_true_eq, decide_eq_false_iff_not] at h); (try simp -implicitDefEqProofs only [W1, ↓D1, ↓DC, QX, *, c_impl_HasKind, c_impl_InRange, c_impl_IsTime, enc_Request, Int.reduceToNat, id_eq, Int.reduceBEq, Int.reduceLE, Int.reduceLT, Nat.reduceAdd, Nat.reduceEqDiff, Nat.reduceLT, Nat.reduceLeDiff, Nat.reduceMul, Nat.reduceSub, reduceIte])))
  all_goals simp -implicitDefEqProofs only [isRequest, *, Bool.true_and, Bool.false_and, Bool.and_true, Bool.and_false]
noncomputable def ruleAt (l : List Includes) (s : List Fact) (q : Request) (r : Rule) : Bool := isFor r q.action q.object && evalAt l s q r.cond
theorem r_spec_RulesThatHold {fl f2 f3 f4 : Bool} (k : Nat) (hk : 294669116243968 + 15 ≤ k) (l : List Includes) (hl : l.length ≤ 140737488355328) (s : List Fact) (hs : s.length ≤ 140737488355328) (p : Policy) (hp : p.w ≤ 1099511627776) (q : Request) :
    run E noExt k 26 [.sl fl (l.map (Includes.enc fl)), .sl f2 (s.map (Fact.enc f2)), p.enc f3, q.enc f4] [] = some (.own 0 false 3 1 ((holdL (ruleAt l s q) 0 p.rules).map (AV.int .i64)), []) := by
  unfold Policy.w at hp
  have hs1 := Nat.le_trans (wl_length _ p.rules) hp
  have hs : p.rules.length ≤ 140737488355328 := by omega
  have c1 : ∀ r ∈ p.rules, run E noExt (k - 1) 48 [r.enc f3, .int .i64 q.action, .int .i64 q.object] [] = some (.bool (isFor r q.action q.object), []) := fun r _ => r_spec_IsFor _ (by omega) r _ _
  have c2 : ∀ r ∈ p.rules, run E noExt (k - 1) 49 [.sl fl (l.map (Includes.enc fl)), .sl f2 (s.map (Fact.enc f2)), r.cond.enc f3, q.enc f4] [] = some (.bool (evalAt l s q r.cond), []) :=
    fun r hr => r_spec_EvalCond _ (by omega) l hl s (by assumption) r.cond (by have h1 := wl_mem (w := Rule.w) hr; have h2 : r.cond.w = r.w := rfl; omega) q
  obtain ⟨k, rfl⟩ : ∃ j, k = j + 1 := ⟨k - 1, by omega⟩
  rw [run_succ rfl rfl, body_eq (nt := 46) (fn := Go.Proofs.Tryz.f26) (by kernel_rfl) rfl rfl rfl rfl rfl rfl rfl rfl]
  simp -implicitDefEqProofs only [Nat.add_sub_cancel] at c1 c2
  simp -implicitDefEqProofs only [W3, ↓D3, ↓DA, ↓DP, ↓DC, Go.Proofs.Tryz.f26, enc_Policy, enc_Request, SH, Int.reduceToNat, id_eq, Int.reduceBEq, Int.reduceLE, Int.reduceLT, Nat.reduceAdd, Nat.reduceEqDiff, Nat.reduceLT, Nat.reduceLeDiff, Nat.reduceMul, Nat.reduceSub, reduceIte]
  rw [ev_loop]
  refine Eq.trans (loop_list (Q := fun g x => thenEnd E.P [] _ 0 (thenEv E _ _ _ _ _ (outOf 0 x)) = some (.own 0 false 3 1 (g.map (AV.int .i64)), [])) p.rules (holdStep (ruleAt l s q)) id
    (fun i b => { sl := [(0, .sl fl (l.map (Includes.enc fl))), (1, .sl f2 (s.map (Fact.enc f2))), (6, .ptr 0 0), (7, .ptr 1 0), (9, .own 0 false 3 1 (b.map (AV.int .i64))), (10, .int .i64 (i : Nat))],
                  bx := [(0, [.int .i64 p.version, .sl f3 (p.rules.map (Rule.enc f3))]), (1, [.int .i64 q.person, .int .i64 q.device, .int .i64 q.program, .int .i64 q.action, .int .i64 q.object, .int .i64 q.now])], nx := 3, nt := 46 }) (fun i b => b.length ≤ i) [] ?_ ?_ (by omega) (by simp) ?_) ?_
  · intro b _
    simp -implicitDefEqProofs only [W3, ↓D3, ↓DA, ↓DP, ↓DC, QX, SH, leaf_some, isNormal, Int.reduceToNat, id_eq, Int.reduceBEq, Int.reduceLE, Int.reduceLT, Nat.reduceAdd, Nat.reduceEqDiff, Nat.reduceLT, Nat.reduceLeDiff, Nat.reduceMul, Nat.reduceSub, reduceIte]
    repeat' (split <;> (rename_i h; (try simp -implicitDefEqProofs only [Bool.not_eq_true', Bool.not_eq_false', decide_eq_true_eq, decide_eq_false_iff_not] at h); (try simp -implicitDefEqProofs only [W3, ↓D3, ↓DA, ↓DP, ↓DC, QX, *, SH, leaf_some, isNormal, Int.reduceToNat, id_eq, Int.reduceBEq, Int.reduceLE, Int.reduceLT, Nat.reduceAdd, Nat.reduceEqDiff, Nat.reduceLT, Nat.reduceLeDiff, Nat.reduceMul, Nat.reduceSub, reduceIte])))
  · intro pre c r b hs' hb
    have hx := (at_row hs' hs).1; have hc := (at_row hs' hs).2.1; have hlt := (at_row hs' hs).2.2.1; have hw1 := (at_row hs' hs).2.2.2.1; have hl9 := (at_row hs' hs).2.2.2.2
    clear hs'
    have c3 := c1 c hc
    have c4 := c2 c hc
    simp -implicitDefEqProofs only [enc_Rule, enc_Cond, enc_Request] at c3 c4
    have hq : ruleAt l s q c = (isFor c q.action q.object && evalAt l s q c.cond) := rfl
    generalize evalAt l s q c.cond = b2 at c4 hq
    generalize isFor c q.action q.object = b1 at c3 hq
    have hm1 : (b.length + 1) * 8 ≤ 140737488355328 := by omega
    have hm2 : b.length + 1 ≤ 9223372036854775807 := by omega
    have hpl : plains [AV.int IntKind.i64 (pre.length : Int)] = true := rfl
    have hm3 : b.length ≤ pre.length + 1 := by omega
    have hm4 : (b ++ [((pre.length : Nat) : Int)]).length ≤ pre.length + 1 := by rw [List.length_append]; exact Nat.succ_le_succ hb
    clear c1 c2
    cases b1 <;> cases b2 <;> simp -implicitDefEqProofs only [Bool.and_self, Bool.and_false, Bool.and_true] at hq
    all_goals
      simp -implicitDefEqProofs only [W3, ↓D3, ↓DA, ↓DP, ↓DC, QX, enc_Rule, hx, hlt, hw1, c3, c4, hq, hm1, hm2, hm3, hm4, hpl, holdStep, List.map_append, plan_26_5, SH, keep_26_3, leaf_some, isNormal, Int.reduceToNat, id_eq, Int.reduceBEq, Int.reduceLE, Int.reduceLT, Nat.reduceAdd, Nat.reduceEqDiff, Nat.reduceLT, Nat.reduceLeDiff, Nat.reduceMul, Nat.reduceSub, reduceIte]
      repeat' (split <;> (rename_i h; (try simp -implicitDefEqProofs only [Bool.not_eq_true', Bool.not_eq_false', decide_eq_true_eq, decide_eq_false_iff_not] at h); (try simp -implicitDefEqProofs only [W3, ↓D3, ↓DA, ↓DP, ↓DC, QX, *, enc_Rule, hx, hlt, hw1, c3, c4, hq, hm1, hm2, hm3, hm4, hpl, holdStep, List.map_append, plan_26_5, SH, keep_26_3, leaf_some, isNormal, Int.reduceToNat, id_eq, Int.reduceBEq, Int.reduceLE, Int.reduceLT, Nat.reduceAdd, Nat.reduceEqDiff, Nat.reduceLT, Nat.reduceLeDiff, Nat.reduceMul, Nat.reduceSub, reduceIte])))
  · simp -implicitDefEqProofs only [firstRegion]; rw [keep_26_3]; simp -implicitDefEqProofs only [W2, ↓D2, ↓DC, Int.reduceToNat, id_eq, Int.reduceBEq, Int.reduceLE, Int.reduceLT, Nat.reduceAdd, Nat.reduceEqDiff, Nat.reduceLT, Nat.reduceLeDiff, Nat.reduceMul, Nat.reduceSub, reduceIte]; first | done | rfl
  · rw [holdLoop]; rfl
theorem r_impl_RulesThatHold {fl f2 f3 f4 : Bool} (k : Nat) (hk : 884940186000000 + 8 ≤ k) (l : List Includes) (hl : l.length ≤ 140737488355328) (s : List Fact) (hs : s.length ≤ 1099511627776) (p : Policy) (hp : p.w ≤ 1099511627776) (q : Request) :
    run E noExt k 33 [.sl fl (l.map (Includes.enc fl)), .sl f2 (s.map (Fact.enc f2)), p.enc f3, q.enc f4] [] = some (.own 0 false 3 1 ((holdL (ruleAt l s q) 0 p.rules).map (AV.int .i64)), []) := by
  unfold Policy.w at hp
  have hs1 := Nat.le_trans (wl_length _ p.rules) hp
  have c1 : ∀ r ∈ p.rules, run E noExt (k - 1) 57 [r.enc f3, .int .i64 q.action, .int .i64 q.object] [] = some (.bool (isFor r q.action q.object), []) := fun r _ => r_impl_IsFor _ (by omega) r _ _
  have c2 : ∀ r ∈ p.rules, run E noExt (k - 1) 58 [.sl fl (l.map (Includes.enc fl)), .sl f2 (s.map (Fact.enc f2)), r.cond.enc f3, q.enc f4] [] = some (.bool (evalAt l s q r.cond), []) :=
    fun r hr => r_impl_EvalCond _ (by omega) l hl s hs r.cond (by have h1 := wl_mem (w := Rule.w) hr; have h2 : r.cond.w = r.w := rfl; omega) q
  clear hs
  have hs : p.rules.length ≤ 140737488355328 := by omega
  obtain ⟨k, rfl⟩ : ∃ j, k = j + 1 := ⟨k - 1, by omega⟩
  rw [run_succ rfl rfl, body_eq (nt := 41) (fn := Go.Proofs.Tryz.f33) (by kernel_rfl) rfl rfl rfl rfl rfl rfl rfl rfl]
  simp -implicitDefEqProofs only [Nat.add_sub_cancel] at c1 c2
  simp -implicitDefEqProofs only [W3, ↓D3, ↓DA, ↓DP, ↓DC, Go.Proofs.Tryz.f33, enc_Policy, enc_Request, SH, Int.reduceToNat, id_eq, Int.reduceBEq, Int.reduceLE, Int.reduceLT, Nat.reduceAdd, Nat.reduceEqDiff, Nat.reduceLT, Nat.reduceLeDiff, Nat.reduceMul, Nat.reduceSub, reduceIte]
  rw [ev_loop]
  refine Eq.trans (loop_list (Q := fun g x => thenEnd E.P [] _ 0 (thenEv E _ _ _ _ _ (outOf 0 x)) = some (.own 0 false 3 1 (g.map (AV.int .i64)), [])) p.rules (holdStep (ruleAt l s q)) id
    (fun i b => { sl := [(0, .sl fl (l.map (Includes.enc fl))), (1, .sl f2 (s.map (Fact.enc f2))), (7, .ptr 0 0), (9, .own 0 false 3 1 (b.map (AV.int .i64))), (14, .sl f3 (p.rules.map (Rule.enc f3))), (15, .int .i64 (p.rules.length : Nat)), (16, .int .i64 (i : Nat))],
                  bx := [(0, [.int .i64 q.person, .int .i64 q.device, .int .i64 q.program, .int .i64 q.action, .int .i64 q.object, .int .i64 q.now])], nx := 2, nt := 41 }) (fun i b => b.length ≤ i) [] ?_ ?_ (by omega) (by simp) ?_) ?_
  · intro b _
    simp -implicitDefEqProofs only [W3, ↓D3, ↓DA, ↓DP, ↓DC, QX, SH, leaf_some, isNormal, Int.reduceToNat, id_eq, Int.reduceBEq, Int.reduceLE, Int.reduceLT, Nat.reduceAdd, Nat.reduceEqDiff, Nat.reduceLT, Nat.reduceLeDiff, Nat.reduceMul, Nat.reduceSub, reduceIte]
    repeat' (split <;> (rename_i h; (try simp -implicitDefEqProofs only [Bool.not_eq_true', Bool.not_eq_false', decide_eq_true_eq, decide_eq_false_iff_not] at h); (try simp -implicitDefEqProofs only [W3, ↓D3, ↓DA, ↓DP, ↓DC, QX, *, SH, leaf_some, isNormal, Int.reduceToNat, id_eq, Int.reduceBEq, Int.reduceLE, Int.reduceLT, Nat.reduceAdd, Nat.reduceEqDiff, Nat.reduceLT, Nat.reduceLeDiff, Nat.reduceMul, Nat.reduceSub, reduceIte])))
  · intro pre c r b hs' hb
    have hx := (at_row hs' hs).1; have hc := (at_row hs' hs).2.1; have hlt := (at_row hs' hs).2.2.1; have hw1 := (at_row hs' hs).2.2.2.1; have hl9 := (at_row hs' hs).2.2.2.2
    clear hs'
    have c3 := c1 c hc
    have c4 := c2 c hc
    simp -implicitDefEqProofs only [enc_Rule, enc_Cond, enc_Request] at c3 c4
    have hq : ruleAt l s q c = (isFor c q.action q.object && evalAt l s q c.cond) := rfl
    generalize evalAt l s q c.cond = b2 at c4 hq
    generalize isFor c q.action q.object = b1 at c3 hq
    have hm1 : (b.length + 1) * 8 ≤ 140737488355328 := by omega
    have hm2 : b.length + 1 ≤ 9223372036854775807 := by omega
    have hpl : plains [AV.int IntKind.i64 (pre.length : Int)] = true := rfl
    have hm3 : b.length ≤ pre.length + 1 := by omega
    have hm4 : (b ++ [((pre.length : Nat) : Int)]).length ≤ pre.length + 1 := by rw [List.length_append]; exact Nat.succ_le_succ hb
    clear c1 c2
    cases b1 <;> cases b2 <;> simp -implicitDefEqProofs only [Bool.and_self, Bool.and_false, Bool.and_true] at hq
    all_goals
      simp -implicitDefEqProofs only [W3, ↓D3, ↓DA, ↓DP, ↓DC, QX, enc_Rule, hx, hlt, hw1, c3, c4, hq, hm1, hm2, hm3, hm4, hpl, holdStep, List.map_append, SH, keep_33_3, leaf_some, isNormal, Int.reduceToNat, id_eq, Int.reduceBEq, Int.reduceLE, Int.reduceLT, Nat.reduceAdd, Nat.reduceEqDiff, Nat.reduceLT, Nat.reduceLeDiff, Nat.reduceMul, Nat.reduceSub, reduceIte]
      repeat' (split <;> (rename_i h; (try simp -implicitDefEqProofs only [Bool.not_eq_true', Bool.not_eq_false', decide_eq_true_eq, decide_eq_false_iff_not] at h); (try simp -implicitDefEqProofs only [W3, ↓D3, ↓DA, ↓DP, ↓DC, QX, *, enc_Rule, hx, hlt, hw1, c3, c4, hq, hm1, hm2, hm3, hm4, hpl, holdStep, List.map_append, SH, keep_33_3, leaf_some, isNormal, Int.reduceToNat, id_eq, Int.reduceBEq, Int.reduceLE, Int.reduceLT, Nat.reduceAdd, Nat.reduceEqDiff, Nat.reduceLT, Nat.reduceLeDiff, Nat.reduceMul, Nat.reduceSub, reduceIte])))
  · simp -implicitDefEqProofs only [firstRegion]; rw [keep_33_3]; simp -implicitDefEqProofs only [W2, ↓D2, ↓DC, Int.reduceToNat, id_eq, Int.reduceBEq, Int.reduceLE, Int.reduceLT, Nat.reduceAdd, Nat.reduceEqDiff, Nat.reduceLT, Nat.reduceLeDiff, Nat.reduceMul, Nat.reduceSub, reduceIte]; first | done | rfl
  · rw [holdLoop]; rfl
open Go.Lib
def decS (x : Nat) : ByteArray := if x = 0 then ByteArray.empty else digitsB x
def digB (d : Nat) : ByteArray := ⟨#[UInt8.ofNat (48 + d)]⟩
theorem byteArray_eq {a b : ByteArray} (h : a.data.toList = b.data.toList) : a = b := by
  cases a; cases b
  congr 1
  exact Array.toList_inj.1 h
theorem data_append {a b : ByteArray} : (a ++ b).data.toList = a.data.toList ++ b.data.toList := by simp
theorem digitsB_data (x : Nat) : (digitsB x).data.toList = decDigits x := by simp [digitsB]
theorem decS_step {x : Nat} (h : x ≠ 0) : decS x = decS (x / 10) ++ digB (x % 10) := by
  refine byteArray_eq ?_
  rw [data_append]
  unfold decS digB
  rw [if_neg h, digitsB_data]
  by_cases hx : x < 10
  · rw [if_pos (by omega), decDigits, dif_pos hx, Nat.mod_eq_of_lt hx]; simp
  · rw [if_neg (by omega), digitsB_data]
    conv => lhs; rw [decDigits, dif_neg hx]
theorem decS_size : ∀ (j x : Nat), x < 10 ^ j → (decS x).size ≤ j
  | 0, x, h => by
    obtain rfl : x = 0 := by simpa using h
    simp [decS]
  | j + 1, x, h => by
    by_cases hx : x = 0
    · subst hx; simp [decS]
    · rw [decS_step hx, ByteArray.size_append]
      have := decS_size j (x / 10) (by rw [Nat.pow_succ] at h; omega)
      have e : (digB (x % 10)).size = 1 := rfl
      omega
theorem str_app_assoc (a b c : ByteArray) : a ++ b ++ c = a ++ (b ++ c) := by
  refine byteArray_eq ?_
  rw [data_append, data_append, data_append, data_append, List.append_assoc]
theorem str_empty_app (a : ByteArray) : ByteArray.empty ++ a = a := byteArray_eq (by rw [data_append]; simp)
theorem str_app_empty (a : ByteArray) : a ++ ByteArray.empty = a := byteArray_eq (by rw [data_append]; simp)
theorem strOf_one (d : Nat) (h : d < 10) : strOf [((48 + d : Nat) : Int)] = digB d := by
  have hd : d = 0 ∨ d = 1 ∨ d = 2 ∨ d = 3 ∨ d = 4 ∨ d = 5 ∨ d = 6 ∨ d = 7 ∨ d = 8 ∨ d = 9 := by omega
  rcases hd with rfl | rfl | rfl | rfl | rfl | rfl | rfl | rfl | rfl | rfl <;> rfl
theorem dig_wrap (d : Nat) (h : d < 10) : IntKind.u8.wrap (48 + (d : Int)) = ((48 + d : Nat) : Int) := by
  have hd : d = 0 ∨ d = 1 ∨ d = 2 ∨ d = 3 ∨ d = 4 ∨ d = 5 ∨ d = 6 ∨ d = 7 ∨ d = 8 ∨ d = 9 := by omega
  rcases hd with rfl | rfl | rfl | rfl | rfl | rfl | rfl | rfl | rfl | rfl <;> rfl
theorem conv_byte {x : Int} : evConvert E.P 3 5 (.int .i64 x) = some (.int .u8 (IntKind.u8.wrap x)) := by kernel_rfl
theorem conv_text {id : Nat} {fz : Bool} {e : TypeId} {x : Int} : evConvert E.P 47 9 (.own id fz e 1 [.int .u8 x]) = some (.str (strOf [x])) := by kernel_rfl
theorem str_add {P : Program} {t : TypeId} {a b : ByteArray} (h : (((a.size + b.size : Nat) : Int) > IntKind.max .i64) = False) : evBin2 P .add t (.str a) (.str b) = some (.str (a ++ b)) := by
  simp -implicitDefEqProofs only [evBin2, evBin, evStr, h, if_false]
theorem r_spec_FormatInt (k : Nat) (hk : 281474976710656 + 3 ≤ k) (n : Nat) (hn : n < 10 ^ 18) : run E noExt k 27 [.int .i64 (n : Nat)] [] = some (.str (digitsB n), []) := by
  obtain ⟨k, rfl⟩ : ∃ j, k = j + 1 := ⟨k - 1, by omega⟩
  rw [run_succ rfl rfl, body_eq (nt := 31) (fn := Go.Proofs.Tryz.f27) (by kernel_rfl) rfl rfl rfl rfl rfl rfl rfl rfl]
  by_cases h0 : n = 0
  · subst h0
    have e : digitsB 0 = ⟨#[48]⟩ := byteArray_eq (by rw [digitsB_data, decDigits, dif_pos (by decide)]; rfl)
    rw [e]
    simp -implicitDefEqProofs only [W3, ↓D3, ↓DA, ↓DP, ↓DC, Go.Proofs.Tryz.f27, Int.reduceToNat, id_eq, Int.reduceBEq, Int.reduceLE, Int.reduceLT, SH, Nat.reduceAdd, Nat.reduceEqDiff, Nat.reduceLT, Nat.reduceLeDiff, Nat.reduceMul, Nat.reduceSub, reduceIte]
  · have h1 : (((n : Nat) : Int) == 0) = false := by simp; exact h0
    have h2 : decide (((n : Nat) : Int) < 0) = false := by simp
    simp -implicitDefEqProofs only [W3, ↓D3, ↓DA, ↓DP, ↓DC, Go.Proofs.Tryz.f27, h1, Int.reduceToNat, id_eq, Int.reduceBEq, Int.reduceLE, Int.reduceLT, SH, Nat.reduceAdd, Nat.reduceEqDiff, Nat.reduceLT, Nat.reduceLeDiff, Nat.reduceMul, Nat.reduceSub, reduceIte]
    rw [ev_loop]
    refine Eq.trans (loop_while (Q := fun (g : ByteArray) x => thenEnd E.P [] _ 0 (thenEv E _ _ _ _ _ (outOf 0 x)) = some (.str g, []))
      (fun p : Nat × ByteArray => if p.1 = 0 then none else some (p.1 / 10, digB (p.1 % 10) ++ p.2)) (fun p => decS p.1 ++ p.2)
      (fun p => { sl := [(0, .int .i64 (n : Nat)), (3, .str p.2), (4, .int .i64 (p.1 : Nat))], bx := [], nx := 0, nt := 31 })
      (fun p => p.1 < 10 ^ 18 ∧ p.2.size + (decS p.1).size ≤ 18) (fun p => (decS p.1).size) (n, ByteArray.empty) ?_ ?_ ?_ ⟨hn, ?_⟩ ?_) ?_
    · rintro ⟨x, s⟩ ⟨hx, hs⟩
      simp only at hx hs
      by_cases hx0 : x = 0
      · subst hx0
        have hx1 : (((0 : Nat) : Int) != 0) = false := rfl
        have h00 : ((0 : Int) != 0) = false := rfl
        have he : decS 0 ++ s = s := str_empty_app s
        have hnx : (if (0 : Nat) = 0 then (none : Option (Nat × ByteArray)) else some (0 / 10, digB (0 % 10) ++ s)) = none := if_pos rfl
        simp -implicitDefEqProofs only [W3, ↓D3, ↓DA, ↓DP, ↓DC, QX, hnx, hx1, h00, h2, he, SH, keep_27_5, leaf_some, isNormal, Int.reduceToNat, id_eq, Int.reduceBEq, Int.reduceLE, Int.reduceLT, Nat.reduceAdd, Nat.reduceEqDiff, Nat.reduceLT, Nat.reduceLeDiff, Nat.reduceMul, Nat.reduceSub, reduceIte]
        repeat' (split <;> (rename_i h; (try simp -implicitDefEqProofs only [Bool.not_eq_true', Bool.not_eq_false', decide_eq_true_eq, decide_eq_false_iff_not] at h); (try simp -implicitDefEqProofs only [W3, ↓D3, ↓DA, ↓DP, ↓DC, QX, *, hnx, hx1, h00, h2, he, SH, keep_27_5, leaf_some, isNormal, Int.reduceToNat, id_eq, Int.reduceBEq, Int.reduceLE, Int.reduceLT, Nat.reduceAdd, Nat.reduceEqDiff, Nat.reduceLT, Nat.reduceLeDiff, Nat.reduceMul, Nat.reduceSub, reduceIte])))
      · have hx1 : (((x : Nat) : Int) != 0) = true := by simp; exact hx0
        have hlt : x % 10 < 10 := Nat.mod_lt _ (by decide)
        have hre : ∀ t, evBin2 E.P .rem t (.int .i64 ((x : Nat) : Int)) (.int .i64 10) = some (.int .i64 ((x % 10 : Nat) : Int)) := fun t => by
          simp -implicitDefEqProofs only [evBin2, evBin, evInt, Int.reduceEq, if_false]
          rw [Int.tmod_eq_emod_of_nonneg (by omega)]; rfl
        have hqu : ∀ t, evBin2 E.P .quo t (.int .i64 ((x : Nat) : Int)) (.int .i64 10) = some (.int .i64 ((x / 10 : Nat) : Int)) := fun t => by
          rw [bin_quo (by decide), Int.tdiv_eq_ediv_of_nonneg (by omega), IntWalk.i64_in _ (by omega)]; rfl
        have hn0 : decide (((x % 10 : Nat) : Int) < 0) = false := decide_eq_false (by omega)
        have had : IntKind.i64.wrap (48 + ((x % 10 : Nat) : Int)) = 48 + ((x % 10 : Nat) : Int) := IntWalk.i64_in _ (by omega)
        have hu8 := dig_wrap _ hlt
        have hst := strOf_one _ hlt
        have hsz : ((((digB (x % 10)).size + s.size : Nat) : Int) > IntKind.max .i64) = False := by
          rw [decS_step hx0, ByteArray.size_append] at hs
          have e : IntKind.max .i64 = 9223372036854775807 := rfl
          rw [e]
          refine eq_false (by omega)
        have hnx : (if x = 0 then (none : Option (Nat × ByteArray)) else some (x / 10, digB (x % 10) ++ s)) = some (x / 10, digB (x % 10) ++ s) := if_neg hx0
        simp -implicitDefEqProofs only [W3, ↓D3, ↓DA, ↓DP, ↓DC, QX, hnx, hx1, h2, hre, hqu, hn0, had, hu8, hst, hsz, op_convert, conv_byte, conv_text, str_add, SH, keep_27_5, leaf_some, isNormal, Int.reduceToNat, id_eq, Int.reduceBEq, Int.reduceLE, Int.reduceLT, Nat.reduceAdd, Nat.reduceEqDiff, Nat.reduceLT, Nat.reduceLeDiff, Nat.reduceMul, Nat.reduceSub, reduceIte]
        repeat' (split <;> (rename_i h; (try simp -implicitDefEqProofs only [Bool.not_eq_true', Bool.not_eq_false', decide_eq_true_eq, decide_eq_false_iff_not] at h); (try simp -implicitDefEqProofs only [W3, ↓D3, ↓DA, ↓DP, ↓DC, QX, *, hnx, hx1, h2, hre, hqu, hn0, had, hu8, hst, hsz, op_convert, conv_byte, conv_text, str_add, SH, keep_27_5, leaf_some, isNormal, Int.reduceToNat, id_eq, Int.reduceBEq, Int.reduceLE, Int.reduceLT, Nat.reduceAdd, Nat.reduceEqDiff, Nat.reduceLT, Nat.reduceLeDiff, Nat.reduceMul, Nat.reduceSub, reduceIte])))
    · rintro ⟨x, s⟩ b' ⟨hx, hs⟩ hb
      simp only at hx hs hb
      split at hb
      · simp at hb
      · rename_i h
        obtain rfl := Option.some.inj hb
        refine ⟨⟨by simp only; omega, ?_⟩, ?_, ?_⟩
        · rw [decS_step h, ByteArray.size_append] at hs
          have e : (digB (x % 10)).size = 1 := rfl
          simp -implicitDefEqProofs only [ByteArray.size_append]
          omega
        · simp only
          have := congrArg ByteArray.size (decS_step h)
          rw [ByteArray.size_append] at this
          have e : (digB (x % 10)).size = 1 := rfl
          omega
        · simp only
          rw [decS_step h, str_app_assoc]
    · have := decS_size 18 n hn
      show (decS n).size < _
      omega
    · have := decS_size 18 n hn
      simp; exact this
    · simp -implicitDefEqProofs only [firstRegion]; rw [keep_27_5]; simp -implicitDefEqProofs only [W2, ↓D2, ↓DC, Int.reduceToNat, id_eq, Int.reduceBEq, Int.reduceLE, Int.reduceLT, Nat.reduceAdd, Nat.reduceEqDiff, Nat.reduceLT, Nat.reduceLeDiff, Nat.reduceMul, Nat.reduceSub, reduceIte]; first | done | rfl
    · simp -implicitDefEqProofs only [str_app_empty, decS, if_neg h0]
theorem r_itoa (k : Nat) (hk : 1 ≤ k) (n : Nat) (hn : n < 100) : run E noExt k 59 [.int .i64 (n : Nat)] [] = some (.str (digitsB n), []) := by
  obtain ⟨k, rfl⟩ : ∃ j, k = j + 1 := ⟨k - 1, by omega⟩
  simp -implicitDefEqProofs only [run, ext_59, itoaExt]
  rw [if_pos ⟨by omega, by omega⟩, Int.toNat_natCast]
theorem r_impl_FormatInt (k : Nat) (hk : 3 ≤ k) (n : Nat) (hn : n < 100) : run E noExt k 34 [.int .i64 (n : Nat)] [] = some (.str (digitsB n), []) := by
  have c0 := r_itoa (k - 1) (by omega) n hn
  obtain ⟨k, rfl⟩ : ∃ j, k = j + 1 := ⟨k - 1, by omega⟩
  rw [run_succ rfl rfl, body_eq (nt := 5) (fn := Go.Proofs.Tryz.f34) (by kernel_rfl) rfl rfl rfl rfl rfl rfl rfl rfl]
  simp -implicitDefEqProofs only [Nat.add_sub_cancel] at c0
  simp -implicitDefEqProofs only [W3, ↓D3, ↓DA, ↓DP, ↓DC, Go.Proofs.Tryz.f34, c0, Int.reduceToNat, id_eq, Int.reduceBEq, Int.reduceLE, Int.reduceLT, SH, Nat.reduceAdd, Nat.reduceEqDiff, Nat.reduceLT, Nat.reduceLeDiff, Nat.reduceMul, Nat.reduceSub, reduceIte]
end Go.Proofs.YtaojmienjikfbaaGreatDoor.Flat
