/-
Conditions and policies by the values of their leaves.
-/
import Derived.Test.YtaojmienjikfbaaGreatDoorEqH
import Derived.Test.YtaojmienjikfbaaGreatDoorEqJ
set_option linter.unusedVariables false
set_option linter.unusedSimpArgs false
set_option maxRecDepth 10000
namespace Go.Proofs.YtaojmienjikfbaaGreatDoor.Flat
mutual
def Cond.eval (p : Cond → Bool) : Cond → Bool
  | ⟨o, a, b, s⟩ => if (o == 7) = true then !((Cond.evals p s).getD 0 false) else if (o == 8) = true then (Cond.evals p s).getD 0 false && (Cond.evals p s).getD 1 false
      else if (o == 9) = true then (Cond.evals p s).getD 0 false || (Cond.evals p s).getD 1 false else p ⟨o, a, b, s⟩
def Cond.evals (p : Cond → Bool) : List Cond → List Bool
  | [] => []
  | c :: r => c.eval p :: Cond.evals p r
end
theorem evals_map (p : Cond → Bool) (s : List Cond) : Cond.evals p s = s.map (Cond.eval p) := by
  induction s with
  | nil => simp [Cond.evals]
  | cons c r ih => simp [Cond.evals, ih]
theorem Cond.eval_eq (p : Cond → Bool) (c : Cond) : c.eval p = if (c.op == 7) = true then !((c.args.map (Cond.eval p)).getD 0 false) else if (c.op == 8) = true then (c.args.map (Cond.eval p)).getD 0 false && (c.args.map (Cond.eval p)).getD 1 false
      else if (c.op == 9) = true then (c.args.map (Cond.eval p)).getD 0 false || (c.args.map (Cond.eval p)).getD 1 false else p c := by
  cases c
  simp -implicitDefEqProofs only [Cond.eval, evals_map]
theorem valid_args {c : Cond} (h : c.valid = true) : (c.op = 7 → ∃ a, c.args = [a] ∧ a.valid = true) ∧ (c.op = 8 → ∃ a b, c.args = [a, b] ∧ a.valid = true ∧ b.valid = true) ∧ (c.op = 9 → ∃ a b, c.args = [a, b] ∧ a.valid = true ∧ b.valid = true) := by
  rw [c.valid_eq] at h
  simp -implicitDefEqProofs only [nodeOk, Bool.and_eq_true, beq_iff_eq, List.all_eq_true] at h
  obtain ⟨⟨⟨h1, _⟩, _⟩, h2⟩ := h
  have ar : ∀ n : Int, arity n = if (n == 7) = true then 1 else if (n == 8) = true then 2 else if (n == 9) = true then 2 else if inR n 1 6 = true then 0 else -1 := fun _ => rfl
  refine ⟨fun e => ?_, fun e => ?_, fun e => ?_⟩
  · rw [ar, e] at h1
    match hs : c.args with
    | [] => rw [hs] at h1; simp at h1
    | [a] => exact ⟨a, rfl, h2 a (by rw [hs]; simp)⟩
    | a :: b :: r => rw [hs] at h1; simp at h1; omega
  · rw [ar, e] at h1
    match hs : c.args with
    | [] => rw [hs] at h1; simp at h1
    | [a] => rw [hs] at h1; simp at h1
    | [a, b] => exact ⟨a, b, rfl, h2 a (by rw [hs]; simp), h2 b (by rw [hs]; simp)⟩
    | a :: b :: d :: r => rw [hs] at h1; simp at h1; omega
  · rw [ar, e] at h1
    match hs : c.args with
    | [] => rw [hs] at h1; simp at h1
    | [a] => rw [hs] at h1; simp at h1
    | [a, b] => exact ⟨a, b, rfl, h2 a (by rw [hs]; simp), h2 b (by rw [hs]; simp)⟩
    | a :: b :: d :: r => rw [hs] at h1; simp at h1; omega
theorem r_impl_evalWith0 {fl : Bool} (F : Nat) (caps : List AV) (hP : Plain caps) (p : Cond → Bool) (K0 : Nat) (hF : ∀ k, K0 ≤ k → ∀ c : Cond, c.w ≤ 1099511627776 → run E noExt k F ([c.enc fl] ++ caps) [] = some (.bool (p c), [])) (x : Cond) (hmdF : E.md F = [] := by rfl) :
    ∀ (k : Nat), K0 + 290271069732864 + 4 * x.w + 2 ≤ k → x.valid = true → x.w ≤ 1099511627776 → run E noExt k 77 [x.enc fl, .clo F caps] [] = some (.bool (x.eval p), []) := by
  induction x using Cond.induct with
  | h x ih =>
    intro k hk hv hx
    have c0 := hF (k - 1) (by omega) x hx
    rw [x.w_eq] at hk hx
    have c1 : ∀ c ∈ x.args, c.valid = true → run E noExt (k - 1) 77 [c.enc fl, .clo F caps] [] = some (.bool (c.eval p), []) := fun c hc hcv => ih c hc _ (by have := wl_mem (w := Cond.w) hc; omega) hcv (by have := wl_mem (w := Cond.w) hc; omega)
    clear ih
    obtain ⟨a7, a8, a9⟩ := valid_args hv
    rw [x.eval_eq]
    have hLd := hP.lend
    by_cases e7 : x.op = 7
    · have b7 : (x.op == 7) = true := by simp [e7]
      obtain ⟨a, ha, va⟩ := a7 e7
      have c2 := c1 a (by rw [ha]; simp) va
      clear c0 c1 hF
      obtain ⟨k, rfl⟩ : ∃ j, k = j + 1 := ⟨k - 1, by omega⟩
      rw [run_succ rfl rfl, body_eq (nt := 51) (fn := Go.Proofs.Tryz.f77) (by kernel_rfl) rfl rfl rfl rfl rfl rfl rfl rfl]
      simp -implicitDefEqProofs only [Nat.add_sub_cancel, enc_Cond] at c2
      simp -implicitDefEqProofs only [W1, ↓D1, ↓DC, QX, Go.Proofs.Tryz.f77, hmdF, enc_Cond, b7, ha, c2, hLd, List.getD_cons_zero, Int.reduceToNat, id_eq, Int.reduceBEq, Int.reduceLE, Int.reduceLT, Nat.reduceAdd, Nat.reduceEqDiff, Nat.reduceLT, Nat.reduceLeDiff, Nat.reduceMul, Nat.reduceSub, reduceIte]
      repeat' (split <;> (rename_i h; (try simp -implicitDefEqProofs only [Bool.not_eq_true', Bool.not_eq_false', decide_eq_true_eq, decide_eq_false_iff_not] at h); (try simp -implicitDefEqProofs only [W1, ↓D1, ↓DC, QX, *, hmdF, enc_Cond, b7, ha, c2, hLd, List.getD_cons_zero, Int.reduceToNat, id_eq, Int.reduceBEq, Int.reduceLE, Int.reduceLT, Nat.reduceAdd, Nat.reduceEqDiff, Nat.reduceLT, Nat.reduceLeDiff, Nat.reduceMul, Nat.reduceSub, reduceIte])))
    · have b7 : (x.op == 7) = false := by simp [e7]
      by_cases e8 : x.op = 8
      · have b8 : (x.op == 8) = true := by simp [e8]
        obtain ⟨a, b, ha, va, vb⟩ := a8 e8
        have c2 := c1 a (by rw [ha]; simp) va
        have c3 := c1 b (by rw [ha]; simp) vb
        clear c0 c1 hF
        obtain ⟨k, rfl⟩ : ∃ j, k = j + 1 := ⟨k - 1, by omega⟩
        rw [run_succ rfl rfl, body_eq (nt := 51) (fn := Go.Proofs.Tryz.f77) (by kernel_rfl) rfl rfl rfl rfl rfl rfl rfl rfl]
        simp -implicitDefEqProofs only [Nat.add_sub_cancel, enc_Cond] at c2 c3
        simp -implicitDefEqProofs only [W1, ↓D1, ↓DC, QX, Go.Proofs.Tryz.f77, hmdF, enc_Cond, b7, b8, ha, c2, c3, hLd, List.getD_cons_zero, List.getD_cons_succ, Int.reduceToNat, id_eq, Int.reduceBEq, Int.reduceLE, Int.reduceLT, Nat.reduceAdd, Nat.reduceEqDiff, Nat.reduceLT, Nat.reduceLeDiff, Nat.reduceMul, Nat.reduceSub, reduceIte]
        repeat' (split <;> (rename_i h; (try simp -implicitDefEqProofs only [Bool.not_eq_true', Bool.not_eq_false', decide_eq_true_eq, decide_eq_false_iff_not] at h); (try simp -implicitDefEqProofs only [W1, ↓D1, ↓DC, QX, *, hmdF, enc_Cond, b7, b8, ha, c2, c3, hLd, List.getD_cons_zero, List.getD_cons_succ, Int.reduceToNat, id_eq, Int.reduceBEq, Int.reduceLE, Int.reduceLT, Nat.reduceAdd, Nat.reduceEqDiff, Nat.reduceLT, Nat.reduceLeDiff, Nat.reduceMul, Nat.reduceSub, reduceIte])))
      · have b8 : (x.op == 8) = false := by simp [e8]
        by_cases e9 : x.op = 9
        · have b9 : (x.op == 9) = true := by simp [e9]
          obtain ⟨a, b, ha, va, vb⟩ := a9 e9
          have c2 := c1 a (by rw [ha]; simp) va
          have c3 := c1 b (by rw [ha]; simp) vb
          clear c0 c1 hF
          obtain ⟨k, rfl⟩ : ∃ j, k = j + 1 := ⟨k - 1, by omega⟩
          rw [run_succ rfl rfl, body_eq (nt := 51) (fn := Go.Proofs.Tryz.f77) (by kernel_rfl) rfl rfl rfl rfl rfl rfl rfl rfl]
          simp -implicitDefEqProofs only [Nat.add_sub_cancel, enc_Cond] at c2 c3
          simp -implicitDefEqProofs only [W1, ↓D1, ↓DC, QX, Go.Proofs.Tryz.f77, hmdF, enc_Cond, b7, b8, b9, ha, c2, c3, hLd, List.getD_cons_zero, List.getD_cons_succ, Int.reduceToNat, id_eq, Int.reduceBEq, Int.reduceLE, Int.reduceLT, Nat.reduceAdd, Nat.reduceEqDiff, Nat.reduceLT, Nat.reduceLeDiff, Nat.reduceMul, Nat.reduceSub, reduceIte]
          repeat' (split <;> (rename_i h; (try simp -implicitDefEqProofs only [Bool.not_eq_true', Bool.not_eq_false', decide_eq_true_eq, decide_eq_false_iff_not] at h); (try simp -implicitDefEqProofs only [W1, ↓D1, ↓DC, QX, *, hmdF, enc_Cond, b7, b8, b9, ha, c2, c3, hLd, List.getD_cons_zero, List.getD_cons_succ, Int.reduceToNat, id_eq, Int.reduceBEq, Int.reduceLE, Int.reduceLT, Nat.reduceAdd, Nat.reduceEqDiff, Nat.reduceLT, Nat.reduceLeDiff, Nat.reduceMul, Nat.reduceSub, reduceIte])))
        · have b9 : (x.op == 9) = false := by simp [e9]
          clear c1 hF
          obtain ⟨k, rfl⟩ : ∃ j, k = j + 1 := ⟨k - 1, by omega⟩
          rw [run_succ rfl rfl, body_eq (nt := 51) (fn := Go.Proofs.Tryz.f77) (by kernel_rfl) rfl rfl rfl rfl rfl rfl rfl rfl]
          simp -implicitDefEqProofs only [Nat.add_sub_cancel, enc_Cond, List.cons_append, List.nil_append] at c0
          simp -implicitDefEqProofs only [W1, ↓D1, ↓DC, QX, Go.Proofs.Tryz.f77, hmdF, enc_Cond, b7, b8, b9, c0, hLd, Int.reduceToNat, id_eq, Int.reduceBEq, Int.reduceLE, Int.reduceLT, Nat.reduceAdd, Nat.reduceEqDiff, Nat.reduceLT, Nat.reduceLeDiff, Nat.reduceMul, Nat.reduceSub, reduceIte]
          repeat' (split <;> (rename_i h; (try simp -implicitDefEqProofs only [Bool.not_eq_true', Bool.not_eq_false', decide_eq_true_eq, decide_eq_false_iff_not] at h); (try simp -implicitDefEqProofs only [W1, ↓D1, ↓DC, QX, *, hmdF, enc_Cond, b7, b8, b9, c0, hLd, Int.reduceToNat, id_eq, Int.reduceBEq, Int.reduceLE, Int.reduceLT, Nat.reduceAdd, Nat.reduceEqDiff, Nat.reduceLT, Nat.reduceLeDiff, Nat.reduceMul, Nat.reduceSub, reduceIte])))
noncomputable def hasRole (l : List Includes) (s : List Fact) (person role now age : Int) : Bool := (rolesOf l s person now age).any fun c => c == role
theorem rolesOf_len (l : List Includes) (s : List Fact) (person now age : Int) : (rolesOf l s person now age).length ≤ 6 := under_len _ 6
theorem any_swap (s : List Int) (x : Int) : (s.any fun y => decide (x = y)) = s.any fun c => c == x := by
  congr 1
  funext y
  rw [Bool.eq_iff_iff, decide_eq_true_iff, beq_iff_eq]
  exact eq_comm
theorem r_spec_HasRole {fl f2 : Bool} (k : Nat) (hk : 281474976710656 + 9 ≤ k) (l : List Includes) (hl : l.length ≤ 140737488355328) (s : List Fact) (hs : s.length ≤ 140737488355328) (person role now age : Int) :
    run E noExt k 116 [.sl fl (l.map (Includes.enc fl)), .sl f2 (s.map (Fact.enc f2)), .int .i64 person, .int .i64 role, .int .i64 now, .int .i64 age] [] = some (.bool (hasRole l s person role now age), []) := by
  have c1 := r_spec_RolesOf (fl := fl) (f2 := f2) (k - 1) (by omega) l hl s hs person now age
  have c2 := r_spec_l13Has (fl := true) (k - 1) (by omega) (rolesOf l s person now age) (by have := rolesOf_len l s person now age; omega) role
  obtain ⟨k, rfl⟩ : ∃ j, k = j + 1 := ⟨k - 1, by omega⟩
  rw [run_succ rfl rfl, body_eq (nt := 21) (fn := Go.Proofs.Tryz.f116) (by kernel_rfl) rfl rfl rfl rfl rfl rfl rfl rfl]
  simp -implicitDefEqProofs only [Nat.add_sub_cancel] at c1 c2
  simp -implicitDefEqProofs only [W3, ↓D3, ↓DA, ↓DP, ↓DC, Go.Proofs.Tryz.f116, c1, c2, scals_ints, plains_ints, ifEv_bool, Int.reduceToNat, id_eq, Int.reduceBEq, Int.reduceLE, Int.reduceLT, SH, Nat.reduceAdd, Nat.reduceEqDiff, Nat.reduceLT, Nat.reduceLeDiff, Nat.reduceMul, Nat.reduceSub, reduceIte]
  rfl
theorem r_impl_HasRole {fl f2 : Bool} (k : Nat) (hk : 281474976710656 + 9 ≤ k) (l : List Includes) (hl : l.length ≤ 140737488355328) (s : List Fact) (hs : s.length ≤ 1099511627776) (person role now age : Int) :
    run E noExt k 101 [.sl fl (l.map (Includes.enc fl)), .sl f2 (s.map (Fact.enc f2)), .int .i64 person, .int .i64 role, .int .i64 now, .int .i64 age] [] = some (.bool (hasRole l s person role now age), []) := by
  have c1 := r_impl_RolesOf (fl := fl) (f2 := f2) (k - 1) (by omega) l hl s hs person now age
  have c2 := r_slices_Contains_Int (fl := true) (gl := true) (k - 1) (by omega) (rolesOf l s person now age) (by have := rolesOf_len l s person now age; omega) role
  rw [any_swap] at c2
  obtain ⟨k, rfl⟩ : ∃ j, k = j + 1 := ⟨k - 1, by omega⟩
  rw [run_succ rfl rfl, body_eq (nt := 21) (fn := Go.Proofs.Tryz.f101) (by kernel_rfl) rfl rfl rfl rfl rfl rfl rfl rfl]
  simp -implicitDefEqProofs only [Nat.add_sub_cancel] at c1 c2
  simp -implicitDefEqProofs only [W3, ↓D3, ↓DA, ↓DP, ↓DC, Go.Proofs.Tryz.f101, c1, c2, scals_ints, plains_ints, ifEv_bool, Int.reduceToNat, id_eq, Int.reduceBEq, Int.reduceLE, Int.reduceLT, SH, Nat.reduceAdd, Nat.reduceEqDiff, Nat.reduceLT, Nat.reduceLeDiff, Nat.reduceMul, Nat.reduceSub, reduceIte]
  rfl
noncomputable def leafAt (l : List Includes) (s : List Fact) (q : Request) (x : Cond) : Bool :=
  if (x.op == 1) = true then true else if (x.op == 2) = true then hasRole l s q.person x.a q.now x.b else
  if (x.op == 3) = true then decide (0 ≤ findFact s 2 q.person q.device q.now x.b) else
  if (x.op == 4) = true then decide (x.a ≤ bestValue s 3 q.device q.now x.b) else
  if (x.op == 5) = true then decide (x.a ≤ bestValue s 4 q.program q.now x.b) else
  if (x.op == 6) = true then decide (q.now ≤ x.a) else false
theorem indexBy_none {α : Type} (p : α → Bool) : ∀ (s : List α) (i : Nat), indexBy p i s = -1 ∨ 0 ≤ indexBy p i s
  | [], i => .inl rfl
  | x :: r, i => by
    unfold indexBy
    split
    · right; omega
    · exact indexBy_none p r (i + 1)
theorem find_ne (s : List Fact) (a b c d e : Int) : (findFact s a b c d e != -1) = decide (0 ≤ findFact s a b c d e) := by
  unfold findFact
  rcases indexBy_none (factIs a b c d e) s 0 with h | h
  · rw [h]; rfl
  · rw [Bool.eq_iff_iff]; simp; omega
theorem r_spec_LeafHolds {fl f2 f3 f4 : Bool} (k : Nat) (hk : 281474976710656 + 10 ≤ k) (l : List Includes) (hl : l.length ≤ 140737488355328) (s : List Fact) (hs : s.length ≤ 140737488355328) (x : Cond) (q : Request) :
    run E noExt k 97 [.sl fl (l.map (Includes.enc fl)), .sl f2 (s.map (Fact.enc f2)), x.enc f3, q.enc f4] [] = some (.bool (leafAt l s q x), []) := by
  have c1 := r_spec_HasRole (fl := fl) (f2 := f2) (k - 1) (by omega) l hl s hs q.person x.a q.now x.b
  have c2 := r_spec_FindFact (fl := f2) (k - 1) (by omega) s hs 2 q.person q.device q.now x.b
  have c3 := r_spec_BestValue (fl := f2) (k - 1) (by omega) s hs 3 q.device q.now x.b
  have c4 := r_spec_BestValue (fl := f2) (k - 1) (by omega) s hs 4 q.program q.now x.b
  obtain ⟨k, rfl⟩ : ∃ j, k = j + 1 := ⟨k - 1, by omega⟩
  rw [run_succ rfl rfl, body_eq (nt := 72) (fn := Go.Proofs.Tryz.f97) (by kernel_rfl) rfl rfl rfl rfl rfl rfl rfl rfl]
  simp -implicitDefEqProofs only [Nat.add_sub_cancel] at c1 c2 c3 c4
  unfold leafAt
  cases e1 : (x.op == 1) with
  | true => simp -implicitDefEqProofs only [W1, ↓D1, ↓DC, Go.Proofs.Tryz.f97, enc_Cond, enc_Request, e1, ifEv_bool, reduceIte, Int.reduceToNat, id_eq, Int.reduceBEq, Int.reduceLE, Int.reduceLT, Nat.reduceAdd, Nat.reduceEqDiff, Nat.reduceLT, Nat.reduceLeDiff, Nat.reduceMul, Nat.reduceSub]
  | false =>
    cases e2 : (x.op == 2) with
    | true => simp -implicitDefEqProofs only [W1, ↓D1, ↓DC, Go.Proofs.Tryz.f97, enc_Cond, enc_Request, e1, e2, c1, ifEv_bool, reduceIte, Int.reduceToNat, id_eq, Int.reduceBEq, Int.reduceLE, Int.reduceLT, Nat.reduceAdd, Nat.reduceEqDiff, Nat.reduceLT, Nat.reduceLeDiff, Nat.reduceMul, Nat.reduceSub]
    | false =>
      cases e3 : (x.op == 3) with
      | true => simp -implicitDefEqProofs only [W1, ↓D1, ↓DC, Go.Proofs.Tryz.f97, enc_Cond, enc_Request, e1, e2, e3, c2, ifEv_bool, GE.ge, reduceIte, Int.reduceToNat, id_eq, Int.reduceBEq, Int.reduceLE, Int.reduceLT, Nat.reduceAdd, Nat.reduceEqDiff, Nat.reduceLT, Nat.reduceLeDiff, Nat.reduceMul, Nat.reduceSub]
      | false =>
        cases e4 : (x.op == 4) with
        | true => simp -implicitDefEqProofs only [W1, ↓D1, ↓DC, Go.Proofs.Tryz.f97, enc_Cond, enc_Request, e1, e2, e3, e4, c3, ifEv_bool, GE.ge, reduceIte, plan_97_9, plan_97_11, Int.reduceToNat, id_eq, Int.reduceBEq, Int.reduceLE, Int.reduceLT, Nat.reduceAdd, Nat.reduceEqDiff, Nat.reduceLT, Nat.reduceLeDiff, Nat.reduceMul, Nat.reduceSub]
        | false =>
          cases e5 : (x.op == 5) with
          | true => simp -implicitDefEqProofs only [W1, ↓D1, ↓DC, Go.Proofs.Tryz.f97, enc_Cond, enc_Request, e1, e2, e3, e4, e5, c4, ifEv_bool, GE.ge, reduceIte, plan_97_9, plan_97_11, Int.reduceToNat, id_eq, Int.reduceBEq, Int.reduceLE, Int.reduceLT, Nat.reduceAdd, Nat.reduceEqDiff, Nat.reduceLT, Nat.reduceLeDiff, Nat.reduceMul, Nat.reduceSub]
          | false =>
            cases e6 : (x.op == 6) <;> simp -implicitDefEqProofs only [W1, ↓D1, ↓DC, Go.Proofs.Tryz.f97, enc_Cond, enc_Request, e1, e2, e3, e4, e5, e6, ifEv_bool, reduceIte, plan_97_9, plan_97_11, Int.reduceToNat, id_eq, Int.reduceBEq, Int.reduceLE, Int.reduceLT, Nat.reduceAdd, Nat.reduceEqDiff, Nat.reduceLT, Nat.reduceLeDiff, Nat.reduceMul, Nat.reduceSub]
theorem r_impl_LeafHolds {fl f2 f3 f4 : Bool} (k : Nat) (hk : 281474976710656 + 11 ≤ k) (l : List Includes) (hl : l.length ≤ 140737488355328) (s : List Fact) (hs : s.length ≤ 1099511627776) (x : Cond) (q : Request) :
    run E noExt k 79 [.sl fl (l.map (Includes.enc fl)), .sl f2 (s.map (Fact.enc f2)), x.enc f3, q.enc f4] [] = some (.bool (leafAt l s q x), []) := by
  have c1 := r_impl_HasRole (fl := fl) (f2 := f2) (k - 1) (by omega) l hl s hs q.person x.a q.now x.b
  have c2 := r_impl_FindFact (fl := f2) (k - 1) (by omega) s (by omega) 2 q.person q.device q.now x.b
  have c3 := r_impl_BestValue (fl := f2) (k - 1) (by omega) s (by omega) 3 q.device q.now x.b
  have c4 := r_impl_BestValue (fl := f2) (k - 1) (by omega) s (by omega) 4 q.program q.now x.b
  have hne := find_ne s 2 q.person q.device q.now x.b
  generalize hb : decide (0 ≤ findFact s 2 q.person q.device q.now x.b) = b at hne
  obtain ⟨k, rfl⟩ : ∃ j, k = j + 1 := ⟨k - 1, by omega⟩
  rw [run_succ rfl rfl, body_eq (nt := 72) (fn := Go.Proofs.Tryz.f79) (by kernel_rfl) rfl rfl rfl rfl rfl rfl rfl rfl]
  simp -implicitDefEqProofs only [Nat.add_sub_cancel] at c1 c2 c3 c4
  unfold leafAt
  rw [hb]
  cases e1 : (x.op == 1) with
  | true => simp -implicitDefEqProofs only [W1, ↓D1, ↓DC, Go.Proofs.Tryz.f79, enc_Cond, enc_Request, e1, ifEv_bool, reduceIte, Int.reduceToNat, id_eq, Int.reduceBEq, Int.reduceLE, Int.reduceLT, Nat.reduceAdd, Nat.reduceEqDiff, Nat.reduceLT, Nat.reduceLeDiff, Nat.reduceMul, Nat.reduceSub]
  | false =>
    cases e2 : (x.op == 2) with
    | true => simp -implicitDefEqProofs only [W1, ↓D1, ↓DC, Go.Proofs.Tryz.f79, enc_Cond, enc_Request, e1, e2, c1, ifEv_bool, reduceIte, Int.reduceToNat, id_eq, Int.reduceBEq, Int.reduceLE, Int.reduceLT, Nat.reduceAdd, Nat.reduceEqDiff, Nat.reduceLT, Nat.reduceLeDiff, Nat.reduceMul, Nat.reduceSub]
    | false =>
      cases e3 : (x.op == 3) with
      | true => simp -implicitDefEqProofs only [W1, ↓D1, ↓DC, Go.Proofs.Tryz.f79, enc_Cond, enc_Request, e1, e2, e3, c2, hne, ifEv_bool, reduceIte, Int.reduceToNat, id_eq, Int.reduceBEq, Int.reduceLE, Int.reduceLT, Nat.reduceAdd, Nat.reduceEqDiff, Nat.reduceLT, Nat.reduceLeDiff, Nat.reduceMul, Nat.reduceSub]
      | false =>
        cases e4 : (x.op == 4) with
        | true => simp -implicitDefEqProofs only [W1, ↓D1, ↓DC, Go.Proofs.Tryz.f79, enc_Cond, enc_Request, e1, e2, e3, e4, c3, ifEv_bool, GE.ge, reduceIte, plan_79_9, plan_79_11, Int.reduceToNat, id_eq, Int.reduceBEq, Int.reduceLE, Int.reduceLT, Nat.reduceAdd, Nat.reduceEqDiff, Nat.reduceLT, Nat.reduceLeDiff, Nat.reduceMul, Nat.reduceSub]
        | false =>
          cases e5 : (x.op == 5) with
          | true => simp -implicitDefEqProofs only [W1, ↓D1, ↓DC, Go.Proofs.Tryz.f79, enc_Cond, enc_Request, e1, e2, e3, e4, e5, c4, ifEv_bool, GE.ge, reduceIte, plan_79_9, plan_79_11, Int.reduceToNat, id_eq, Int.reduceBEq, Int.reduceLE, Int.reduceLT, Nat.reduceAdd, Nat.reduceEqDiff, Nat.reduceLT, Nat.reduceLeDiff, Nat.reduceMul, Nat.reduceSub]
          | false =>
            cases e6 : (x.op == 6) <;> simp -implicitDefEqProofs only [W1, ↓D1, ↓DC, Go.Proofs.Tryz.f79, enc_Cond, enc_Request, e1, e2, e3, e4, e5, e6, ifEv_bool, reduceIte, plan_79_9, plan_79_11, Int.reduceToNat, id_eq, Int.reduceBEq, Int.reduceLE, Int.reduceLT, Nat.reduceAdd, Nat.reduceEqDiff, Nat.reduceLT, Nat.reduceLeDiff, Nat.reduceMul, Nat.reduceSub]
theorem r_spec_l18Eval0 {fl f2 f3 f4 : Bool} (l : List Includes) (hl : l.length ≤ 140737488355328) (s : List Fact) (hs : s.length ≤ 140737488355328) (q : Request) (x : Cond) : ∀ (k : Nat), 290271069732864 + 4 * x.w + 12 ≤ k → x.valid = true →
    run E noExt k 71 [.sl fl (l.map (Includes.enc fl)), .sl f2 (s.map (Fact.enc f2)), x.enc f3, q.enc f4] [] = some (.bool (x.eval (leafAt l s q)), []) := by
  induction x using Cond.induct with
  | h x ih =>
    intro k hk hv
    rw [x.w_eq] at hk
    have c0 := r_spec_LeafHolds (fl := fl) (f2 := f2) (f3 := f3) (f4 := f4) (k - 1) (by omega) l hl s hs x q
    have c1 : ∀ c ∈ x.args, c.valid = true → run E noExt (k - 1) 71 [.sl fl (l.map (Includes.enc fl)), .sl f2 (s.map (Fact.enc f2)), c.enc f3, q.enc f4] [] = some (.bool (c.eval (leafAt l s q)), []) := fun c hc hcv => ih c hc _ (by have := wl_mem (w := Cond.w) hc; omega) hcv
    clear ih
    obtain ⟨a7, a8, a9⟩ := valid_args hv
    rw [x.eval_eq]
    by_cases e7 : x.op = 7
    · have b7 : (x.op == 7) = true := by simp [e7]
      obtain ⟨a, ha, va⟩ := a7 e7
      have c2 := c1 a (by rw [ha]; simp) va
      clear c0 c1
      obtain ⟨k, rfl⟩ : ∃ j, k = j + 1 := ⟨k - 1, by omega⟩
      rw [run_succ rfl rfl, body_eq (nt := 67) (fn := Go.Proofs.Tryz.f71) (by kernel_rfl) rfl rfl rfl rfl rfl rfl rfl rfl]
      simp -implicitDefEqProofs only [Nat.add_sub_cancel, enc_Cond, enc_Request] at c2
      simp -implicitDefEqProofs only [W1, ↓D1, ↓DC, QX, Go.Proofs.Tryz.f71, enc_Cond, enc_Request, b7, ha, c2, List.getD_cons_zero, plan_71_3, plan_71_5, plan_71_7, Int.reduceToNat, id_eq, Int.reduceBEq, Int.reduceLE, Int.reduceLT, Nat.reduceAdd, Nat.reduceEqDiff, Nat.reduceLT, Nat.reduceLeDiff, Nat.reduceMul, Nat.reduceSub, reduceIte]
      repeat' (split <;> (rename_i h; (try simp -implicitDefEqProofs only [Bool.not_eq_true', Bool.not_eq_false', decide_eq_true_eq, decide_eq_false_iff_not] at h); (try simp -implicitDefEqProofs only [W1, ↓D1, ↓DC, QX, *, enc_Cond, enc_Request, b7, ha, c2, List.getD_cons_zero, plan_71_3, plan_71_5, plan_71_7, Int.reduceToNat, id_eq, Int.reduceBEq, Int.reduceLE, Int.reduceLT, Nat.reduceAdd, Nat.reduceEqDiff, Nat.reduceLT, Nat.reduceLeDiff, Nat.reduceMul, Nat.reduceSub, reduceIte])))
    · have b7 : (x.op == 7) = false := by simp [e7]
      by_cases e8 : x.op = 8
      · have b8 : (x.op == 8) = true := by simp [e8]
        obtain ⟨a, b, ha, va, vb⟩ := a8 e8
        have c2 := c1 a (by rw [ha]; simp) va
        have c3 := c1 b (by rw [ha]; simp) vb
        clear c0 c1
        obtain ⟨k, rfl⟩ : ∃ j, k = j + 1 := ⟨k - 1, by omega⟩
        rw [run_succ rfl rfl, body_eq (nt := 67) (fn := Go.Proofs.Tryz.f71) (by kernel_rfl) rfl rfl rfl rfl rfl rfl rfl rfl]
        simp -implicitDefEqProofs only [Nat.add_sub_cancel, enc_Cond, enc_Request] at c2 c3
        simp -implicitDefEqProofs only [W1, ↓D1, ↓DC, QX, Go.Proofs.Tryz.f71, enc_Cond, enc_Request, b7, b8, ha, c2, c3, List.getD_cons_zero, List.getD_cons_succ, plan_71_3, plan_71_5, plan_71_7, Int.reduceToNat, id_eq, Int.reduceBEq, Int.reduceLE, Int.reduceLT, Nat.reduceAdd, Nat.reduceEqDiff, Nat.reduceLT, Nat.reduceLeDiff, Nat.reduceMul, Nat.reduceSub, reduceIte]
        repeat' (split <;> (rename_i h; (try simp -implicitDefEqProofs only [Bool.not_eq_true', Bool.not_eq_false', decide_eq_true_eq, decide_eq_false_iff_not] at h); (try simp -implicitDefEqProofs only [W1, ↓D1, ↓DC, QX, *, enc_Cond, enc_Request, b7, b8, ha, c2, c3, List.getD_cons_zero, List.getD_cons_succ, plan_71_3, plan_71_5, plan_71_7, Int.reduceToNat, id_eq, Int.reduceBEq, Int.reduceLE, Int.reduceLT, Nat.reduceAdd, Nat.reduceEqDiff, Nat.reduceLT, Nat.reduceLeDiff, Nat.reduceMul, Nat.reduceSub, reduceIte])))
      · have b8 : (x.op == 8) = false := by simp [e8]
        by_cases e9 : x.op = 9
        · have b9 : (x.op == 9) = true := by simp [e9]
          obtain ⟨a, b, ha, va, vb⟩ := a9 e9
          have c2 := c1 a (by rw [ha]; simp) va
          have c3 := c1 b (by rw [ha]; simp) vb
          clear c0 c1
          obtain ⟨k, rfl⟩ : ∃ j, k = j + 1 := ⟨k - 1, by omega⟩
          rw [run_succ rfl rfl, body_eq (nt := 67) (fn := Go.Proofs.Tryz.f71) (by kernel_rfl) rfl rfl rfl rfl rfl rfl rfl rfl]
          simp -implicitDefEqProofs only [Nat.add_sub_cancel, enc_Cond, enc_Request] at c2 c3
          simp -implicitDefEqProofs only [W1, ↓D1, ↓DC, QX, Go.Proofs.Tryz.f71, enc_Cond, enc_Request, b7, b8, b9, ha, c2, c3, List.getD_cons_zero, List.getD_cons_succ, plan_71_3, plan_71_5, plan_71_7, Int.reduceToNat, id_eq, Int.reduceBEq, Int.reduceLE, Int.reduceLT, Nat.reduceAdd, Nat.reduceEqDiff, Nat.reduceLT, Nat.reduceLeDiff, Nat.reduceMul, Nat.reduceSub, reduceIte]
          repeat' (split <;> (rename_i h; (try simp -implicitDefEqProofs only [Bool.not_eq_true', Bool.not_eq_false', decide_eq_true_eq, decide_eq_false_iff_not] at h); (try simp -implicitDefEqProofs only [W1, ↓D1, ↓DC, QX, *, enc_Cond, enc_Request, b7, b8, b9, ha, c2, c3, List.getD_cons_zero, List.getD_cons_succ, plan_71_3, plan_71_5, plan_71_7, Int.reduceToNat, id_eq, Int.reduceBEq, Int.reduceLE, Int.reduceLT, Nat.reduceAdd, Nat.reduceEqDiff, Nat.reduceLT, Nat.reduceLeDiff, Nat.reduceMul, Nat.reduceSub, reduceIte])))
        · have b9 : (x.op == 9) = false := by simp [e9]
          clear c1
          obtain ⟨k, rfl⟩ : ∃ j, k = j + 1 := ⟨k - 1, by omega⟩
          rw [run_succ rfl rfl, body_eq (nt := 67) (fn := Go.Proofs.Tryz.f71) (by kernel_rfl) rfl rfl rfl rfl rfl rfl rfl rfl]
          simp -implicitDefEqProofs only [Nat.add_sub_cancel, enc_Cond, enc_Request] at c0
          simp -implicitDefEqProofs only [W1, ↓D1, ↓DC, QX, Go.Proofs.Tryz.f71, enc_Cond, enc_Request, b7, b8, b9, c0, plan_71_3, plan_71_5, plan_71_7, Int.reduceToNat, id_eq, Int.reduceBEq, Int.reduceLE, Int.reduceLT, Nat.reduceAdd, Nat.reduceEqDiff, Nat.reduceLT, Nat.reduceLeDiff, Nat.reduceMul, Nat.reduceSub, reduceIte]
          repeat' (split <;> (rename_i h; (try simp -implicitDefEqProofs only [Bool.not_eq_true', Bool.not_eq_false', decide_eq_true_eq, decide_eq_false_iff_not] at h); (try simp -implicitDefEqProofs only [W1, ↓D1, ↓DC, QX, *, enc_Cond, enc_Request, b7, b8, b9, c0, plan_71_3, plan_71_5, plan_71_7, Int.reduceToNat, id_eq, Int.reduceBEq, Int.reduceLE, Int.reduceLT, Nat.reduceAdd, Nat.reduceEqDiff, Nat.reduceLT, Nat.reduceLeDiff, Nat.reduceMul, Nat.reduceSub, reduceIte])))
noncomputable def evalAt (l : List Includes) (s : List Fact) (q : Request) (x : Cond) : Bool := isCond x && x.eval (leafAt l s q)
theorem r_spec_EvalCond {fl f2 f3 f4 : Bool} (k : Nat) (hk : 294669116243968 + 14 ≤ k) (l : List Includes) (hl : l.length ≤ 140737488355328) (s : List Fact) (hs : s.length ≤ 140737488355328) (x : Cond) (hx : x.w ≤ 1099511627776) (q : Request) :
    run E noExt k 49 [.sl fl (l.map (Includes.enc fl)), .sl f2 (s.map (Fact.enc f2)), x.enc f3, q.enc f4] [] = some (.bool (evalAt l s q x), []) := by
  have c1 := r_spec_IsCond (fl := f3) (k - 1) (by omega) x hx
  have c2 := r_spec_l18Eval0 (fl := fl) (f2 := f2) (f3 := f3) (f4 := f4) l hl s hs q x (k - 1) (by omega)
  unfold evalAt
  obtain ⟨k, rfl⟩ : ∃ j, k = j + 1 := ⟨k - 1, by omega⟩
  rw [run_succ rfl rfl, body_eq (nt := 18) (fn := Go.Proofs.Tryz.f49) (by kernel_rfl) rfl rfl rfl rfl rfl rfl rfl rfl]
  simp -implicitDefEqProofs only [Nat.add_sub_cancel, enc_Cond, enc_Request] at c1 c2
  cases h : isCond x
  · simp -implicitDefEqProofs only [h] at c1
    simp -implicitDefEqProofs only [W1, ↓D1, ↓DC, QX, Go.Proofs.Tryz.f49, enc_Cond, enc_Request, c1, Int.reduceToNat, id_eq, Int.reduceBEq, Int.reduceLE, Int.reduceLT, Nat.reduceAdd, Nat.reduceEqDiff, Nat.reduceLT, Nat.reduceLeDiff, Nat.reduceMul, Nat.reduceSub, reduceIte]
    repeat' (split <;> (rename_i h; (try simp -implicitDefEqProofs only [Bool.not_eq_true', Bool.not_eq_false', decide_eq_true_eq, decide_eq_false_iff_not] at h); (try simp -implicitDefEqProofs only [W1, ↓D1, ↓DC, QX, *, enc_Cond, enc_Request, c1, Int.reduceToNat, id_eq, Int.reduceBEq, Int.reduceLE, Int.reduceLT, Nat.reduceAdd, Nat.reduceEqDiff, Nat.reduceLT, Nat.reduceLeDiff, Nat.reduceMul, Nat.reduceSub, reduceIte])))
  · have hv : x.valid = true := by
      unfold isCond at h
      simp -implicitDefEqProofs only [Bool.and_eq_true] at h
      exact h.2
    have c3 := c2 hv
    simp -implicitDefEqProofs only [h] at c1
    simp -implicitDefEqProofs only [W1, ↓D1, ↓DC, QX, Go.Proofs.Tryz.f49, enc_Cond, enc_Request, c1, c3, Int.reduceToNat, id_eq, Int.reduceBEq, Int.reduceLE, Int.reduceLT, Nat.reduceAdd, Nat.reduceEqDiff, Nat.reduceLT, Nat.reduceLeDiff, Nat.reduceMul, Nat.reduceSub, reduceIte]
    repeat' (split <;> (rename_i h; (try simp -implicitDefEqProofs only [Bool.not_eq_true', Bool.not_eq_false', decide_eq_true_eq, decide_eq_false_iff_not] at h); (try simp -implicitDefEqProofs only [W1, ↓D1, ↓DC, QX, *, enc_Cond, enc_Request, c1, c3, Int.reduceToNat, id_eq, Int.reduceBEq, Int.reduceLE, Int.reduceLT, Nat.reduceAdd, Nat.reduceEqDiff, Nat.reduceLT, Nat.reduceLeDiff, Nat.reduceMul, Nat.reduceSub, reduceIte])))
theorem r_impl_EvalCond1 {fl f2 f3 f4 : Bool} (k : Nat) (hk : 281474976710656 + 12 ≤ k) (l : List Includes) (hl : l.length ≤ 140737488355328) (s : List Fact) (hs : s.length ≤ 1099511627776) (x : Cond) (q : Request) :
    run E noExt k 78 [x.enc f3, .cptr [.sl fl (l.map (Includes.enc fl))], .cptr [.sl f2 (s.map (Fact.enc f2))], .cptr [.int .i64 q.person, .int .i64 q.device, .int .i64 q.program, .int .i64 q.action, .int .i64 q.object, .int .i64 q.now]] [] = some (.bool (leafAt l s q x), []) := by
  have c1 := r_impl_LeafHolds (fl := fl) (f2 := f2) (f3 := f3) (f4 := f4) (k - 1) (by omega) l hl s hs x q
  obtain ⟨k, rfl⟩ : ∃ j, k = j + 1 := ⟨k - 1, by omega⟩
  rw [run_succ rfl rfl, body_eq (nt := 11) (fn := Go.Proofs.Tryz.f78) (by kernel_rfl) rfl rfl rfl rfl rfl rfl rfl rfl]
  simp -implicitDefEqProofs only [Nat.add_sub_cancel, enc_Cond, enc_Request] at c1
  simp -implicitDefEqProofs only [W1, ↓D1, ↓DC, Go.Proofs.Tryz.f78, enc_Cond, c1, Int.reduceToNat, id_eq, Int.reduceBEq, Int.reduceLE, Int.reduceLT, Nat.reduceAdd, Nat.reduceEqDiff, Nat.reduceLT, Nat.reduceLeDiff, Nat.reduceMul, Nat.reduceSub, reduceIte]
theorem r_impl_EvalCond {fl f2 f3 f4 : Bool} (k : Nat) (hk : 884940186000000 + 7 ≤ k) (l : List Includes) (hl : l.length ≤ 140737488355328) (s : List Fact) (hs : s.length ≤ 1099511627776) (x : Cond) (hx : x.w ≤ 1099511627776) (q : Request) :
    run E noExt k 58 [.sl fl (l.map (Includes.enc fl)), .sl f2 (s.map (Fact.enc f2)), x.enc f3, q.enc f4] [] = some (.bool (evalAt l s q x), []) := by
  have c1 := r_impl_IsCond (fl := f3) (k - 1) (by omega) x hx
  have c2 := r_impl_evalWith0 (fl := f3) 78 [.cptr [.sl fl (l.map (Includes.enc fl))], .cptr [.sl f2 (s.map (Fact.enc f2))], .cptr [.int .i64 q.person, .int .i64 q.device, .int .i64 q.program, .int .i64 q.action, .int .i64 q.object, .int .i64 q.now]] (plain_of rfl) (leafAt l s q) (281474976710656 + 12) (fun k hk c hc => r_impl_EvalCond1 (f3 := f3) (f4 := f4) k hk l hl s hs c q) x rfl (k - 1) (by omega)
  unfold evalAt
  obtain ⟨k, rfl⟩ : ∃ j, k = j + 1 := ⟨k - 1, by omega⟩
  rw [run_succ rfl rfl, body_eq (nt := 16) (fn := Go.Proofs.Tryz.f58) (by kernel_rfl) rfl rfl rfl rfl rfl rfl rfl rfl]
  simp -implicitDefEqProofs only [Nat.add_sub_cancel, enc_Cond] at c1 c2
  cases h : isCond x
  · simp -implicitDefEqProofs only [h] at c1
    simp -implicitDefEqProofs only [W1, ↓D1, ↓DC, QX, Go.Proofs.Tryz.f58, enc_Cond, enc_Request, c1, Int.reduceToNat, id_eq, Int.reduceBEq, Int.reduceLE, Int.reduceLT, Nat.reduceAdd, Nat.reduceEqDiff, Nat.reduceLT, Nat.reduceLeDiff, Nat.reduceMul, Nat.reduceSub, reduceIte]
    repeat' (split <;> (rename_i h; (try simp -implicitDefEqProofs only [Bool.not_eq_true', Bool.not_eq_false', decide_eq_true_eq, decide_eq_false_iff_not] at h); (try simp -implicitDefEqProofs only [W1, ↓D1, ↓DC, QX, *, enc_Cond, enc_Request, c1, Int.reduceToNat, id_eq, Int.reduceBEq, Int.reduceLE, Int.reduceLT, Nat.reduceAdd, Nat.reduceEqDiff, Nat.reduceLT, Nat.reduceLeDiff, Nat.reduceMul, Nat.reduceSub, reduceIte])))
  · have hv : x.valid = true := by
      unfold isCond at h
      simp -implicitDefEqProofs only [Bool.and_eq_true] at h
      exact h.2
    have c3 := c2 hv hx
    simp -implicitDefEqProofs only [h] at c1
    simp -implicitDefEqProofs only [W1, ↓D1, ↓DC, QX, Go.Proofs.Tryz.f58, enc_Cond, enc_Request, c1, c3, Int.reduceToNat, id_eq, Int.reduceBEq, Int.reduceLE, Int.reduceLT, Nat.reduceAdd, Nat.reduceEqDiff, Nat.reduceLT, Nat.reduceLeDiff, Nat.reduceMul, Nat.reduceSub, reduceIte]
    repeat' (split <;> (rename_i h; (try simp -implicitDefEqProofs only [Bool.not_eq_true', Bool.not_eq_false', decide_eq_true_eq, decide_eq_false_iff_not] at h); (try simp -implicitDefEqProofs only [W1, ↓D1, ↓DC, QX, *, enc_Cond, enc_Request, c1, c3, Int.reduceToNat, id_eq, Int.reduceBEq, Int.reduceLE, Int.reduceLT, Nat.reduceAdd, Nat.reduceEqDiff, Nat.reduceLT, Nat.reduceLeDiff, Nat.reduceMul, Nat.reduceSub, reduceIte])))
def holdStep (f : Rule → Bool) (i : Nat) (r : Rule) (b : List Int) : Sum (List Int) (List Int) := .inr (if f r = true then b ++ [(i : Int)] else b)
def holdL (f : Rule → Bool) : Nat → List Rule → List Int
  | _, [] => []
  | i, r :: s => if f r = true then (i : Int) :: holdL f (i + 1) s else holdL f (i + 1) s
theorem holdLoop (f : Rule → Bool) : ∀ (s : List Rule) (i : Nat) (b : List Int), loopL (holdStep f) id i s b = b ++ holdL f i s
  | [], i, b => by simp [loopL, holdL]
  | r :: s, i, b => by
    simp -implicitDefEqProofs only [loopL, holdStep, holdL]
    rw [holdLoop f s]
    cases f r <;> simp
theorem holdL_length (f : Rule → Bool) : ∀ (s : List Rule) (i : Nat), (holdL f i s).length ≤ s.length
  | [], i => by simp [holdL]
  | r :: s, i => by
    have := holdL_length f s (i + 1)
    simp -implicitDefEqProofs only [holdL]
    split <;> simp <;> omega
theorem holdL_mem (f : Rule → Bool) : ∀ (s : List Rule) (i : Nat) (z : Int), z ∈ holdL f i s → ∃ j, z = ((i + j : Nat) : Int) ∧ j < s.length
  | [], i, z, h => by simp [holdL] at h
  | r :: s, i, z, h => by
    simp -implicitDefEqProofs only [holdL] at h
    have go : z ∈ holdL f (i + 1) s → ∃ j, z = ((i + j : Nat) : Int) ∧ j < (r :: s).length := fun h => by
      obtain ⟨j, h1, h2⟩ := holdL_mem f s (i + 1) z h
      exact ⟨j + 1, by omega, by simp; omega⟩
    split at h
    · rcases List.mem_cons.1 h with rfl | h
      · exact ⟨0, by simp, by simp⟩
      · exact go h
    · exact go h
end Go.Proofs.YtaojmienjikfbaaGreatDoor.Flat
