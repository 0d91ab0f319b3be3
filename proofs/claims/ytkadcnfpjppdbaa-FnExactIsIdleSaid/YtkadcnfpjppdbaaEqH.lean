/-
Rules that meet; diagrams compared and counted.
-/
import Derived.Test.YtkadcnfpjppdbaaEqL
import Derived.Test.YtkadcnfpjppdbaaEqA
import Derived.Test.YtkadcnfpjppdbaaEqG
set_option linter.unusedVariables false
set_option linter.unusedSimpArgs false
set_option maxRecDepth 10000
namespace Go.Proofs.Ytkadcnfpjppdbaa.Flat
def isFor (r : Rule) (a o : Int) : Bool := ((r.action == -1) || (r.action == a)) && ((r.object == -1) || (r.object == o))
theorem r_spec_IsFor {fl : Bool} (k : Nat) (hk : 281474976710656 + 1 ≤ k) (x : Rule) (a o : Int) : run E noExt k 50 [x.enc fl, .int .i64 a, .int .i64 o] [] = some (.bool (isFor x a o), []) := by
  obtain ⟨k, rfl⟩ : ∃ j, k = j + 1 := ⟨k - 1, by omega⟩
  rw [run_succ rfl rfl, body_eq (nt := 27) (fn := Go.Proofs.Try.f50) (by kernel_rfl) rfl rfl rfl rfl rfl rfl rfl rfl]
  simp -implicitDefEqProofs only [QS, QN, ZRS, ↓ZDS, Go.Proofs.Try.f50, enc_Rule, ifEv_bool, gate_bool, gateP_bool, gateQ_bool, pick_bool, SN, evCutRow, Int.reduceToNat, id_eq, Int.reduceBEq, Int.reduceLE, Int.reduceLT, SS, one_ne2, num_ne2, TIS, MDS, AV.cells, AV.isCell, Value.cells, Nat.reduceAdd, Nat.reduceEqDiff, Nat.reduceLT, Nat.reduceLeDiff, Nat.reduceMul, Nat.reduceSub, reduceIte]
  repeat' (split <;> (rename_i h; (try simp -implicitDefEqProofs only [Bool.not_eq_true', Bool.not_eq_false', decide_eq_true_eq, decide_eq_false_iff_not] at h); (try simp -implicitDefEqProofs only [QS, QN, ZRS, ↓ZDS, *, enc_Rule, ifEv_bool, gate_bool, gateP_bool, gateQ_bool, pick_bool, SN, evCutRow, Int.reduceToNat, id_eq, Int.reduceBEq, Int.reduceLE, Int.reduceLT, SS, one_ne2, num_ne2, TIS, MDS, AV.cells, AV.isCell, Value.cells, Nat.reduceAdd, Nat.reduceEqDiff, Nat.reduceLT, Nat.reduceLeDiff, Nat.reduceMul, Nat.reduceSub, reduceIte])))
  all_goals simp -implicitDefEqProofs only [isFor, *, Bool.true_and, Bool.false_and, Bool.and_true, Bool.and_false, Bool.or_true, Bool.true_or, Bool.false_or]
theorem r_impl_IsFor {fl : Bool} (k : Nat) (hk : 281474976710656 + 1 ≤ k) (x : Rule) (a o : Int) : run E noExt k 58 [x.enc fl, .int .i64 a, .int .i64 o] [] = some (.bool (isFor x a o), []) := by
  obtain ⟨k, rfl⟩ : ∃ j, k = j + 1 := ⟨k - 1, by omega⟩
  rw [run_succ rfl rfl, body_eq (nt := 27) (fn := Go.Proofs.Try.f58) (by kernel_rfl) rfl rfl rfl rfl rfl rfl rfl rfl]
  simp -implicitDefEqProofs only [QS, QN, ZRS, ↓ZDS, Go.Proofs.Try.f58, enc_Rule, ifEv_bool, gate_bool, gateP_bool, gateQ_bool, pick_bool, SN, evCutRow, Int.reduceToNat, id_eq, Int.reduceBEq, Int.reduceLE, Int.reduceLT, SS, one_ne2, num_ne2, TIS, MDS, AV.cells, AV.isCell, Value.cells, Nat.reduceAdd, Nat.reduceEqDiff, Nat.reduceLT, Nat.reduceLeDiff, Nat.reduceMul, Nat.reduceSub, reduceIte]
  repeat' (split <;> (rename_i h; (try simp -implicitDefEqProofs only [Bool.not_eq_true', Bool.not_eq_false', decide_eq_true_eq, decide_eq_false_iff_not] at h); (try simp -implicitDefEqProofs only [QS, QN, ZRS, ↓ZDS, *, enc_Rule, ifEv_bool, gate_bool, gateP_bool, gateQ_bool, pick_bool, SN, evCutRow, Int.reduceToNat, id_eq, Int.reduceBEq, Int.reduceLE, Int.reduceLT, SS, one_ne2, num_ne2, TIS, MDS, AV.cells, AV.isCell, Value.cells, Nat.reduceAdd, Nat.reduceEqDiff, Nat.reduceLT, Nat.reduceLeDiff, Nat.reduceMul, Nat.reduceSub, reduceIte])))
  all_goals simp -implicitDefEqProofs only [isFor, *, Bool.true_and, Bool.false_and, Bool.and_true, Bool.and_false, Bool.or_true, Bool.true_or, Bool.false_or]
def meet (r s : Rule) : Bool := (((r.action == s.action) || (r.action == -1)) || (s.action == -1)) && (((r.object == s.object) || (r.object == -1)) || (s.object == -1))
end Go.Proofs.Ytkadcnfpjppdbaa.Flat
namespace Go.Proofs.Ytkadcnfpjppdbaa.Flat
mutual
def Cond.eval (p : Cond → Bool) : Cond → Bool
  | ⟨o, a, b, s⟩ => if (o == 7) = true then !((Cond.evals p s).getD 0 false) else if (o == 8) = true then (Cond.evals p s).getD 0 false && (Cond.evals p s).getD 1 false
      else if (o == 9) = true then (Cond.evals p s).getD 0 false || (Cond.evals p s).getD 1 false else p ⟨o, a, b, s⟩
def Cond.evals (p : Cond → Bool) : List Cond → List Bool
  | [] => []
  | c :: r => c.eval p :: Cond.evals p r
end
theorem evals_map (p : Cond → Bool) (s : List Cond) : Cond.evals p s = s.map (Cond.eval p) := by
  induction s with
  | nil => simp [Cond.evals]
  | cons c r ih => simp [Cond.evals, ih]
theorem Cond.eval_eq (p : Cond → Bool) (c : Cond) : c.eval p = if (c.op == 7) = true then !((c.args.map (Cond.eval p)).getD 0 false) else if (c.op == 8) = true then (c.args.map (Cond.eval p)).getD 0 false && (c.args.map (Cond.eval p)).getD 1 false
      else if (c.op == 9) = true then (c.args.map (Cond.eval p)).getD 0 false || (c.args.map (Cond.eval p)).getD 1 false else p c := by
  cases c
  simp -implicitDefEqProofs only [Cond.eval, evals_map]
/-- A node that is right has the arguments that its operation asks for. -/
theorem valid_args {c : Cond} (h : c.valid = true) : (c.op = 7 → ∃ a, c.args = [a] ∧ a.valid = true) ∧ (c.op = 8 → ∃ a b, c.args = [a, b] ∧ a.valid = true ∧ b.valid = true) ∧ (c.op = 9 → ∃ a b, c.args = [a, b] ∧ a.valid = true ∧ b.valid = true) := by
  rw [c.valid_eq] at h
  simp -implicitDefEqProofs only [nodeOk, Bool.and_eq_true, beq_iff_eq, List.all_eq_true] at h
  obtain ⟨⟨⟨h1, _⟩, _⟩, h2⟩ := h
  have ar : ∀ n : Int, arity n = if (n == 7) = true then 1 else if (n == 8) = true then 2 else if (n == 9) = true then 2 else if inR n 1 6 = true then 0 else -1 := fun _ => rfl
  refine ⟨fun e => ?_, fun e => ?_, fun e => ?_⟩
  · rw [ar, e] at h1
    match hs : c.args with
    | [] => rw [hs] at h1; simp at h1
    | [a] => exact ⟨a, rfl, h2 a (by rw [hs]; simp)⟩
    | a :: b :: r => rw [hs] at h1; simp at h1; omega
  · rw [ar, e] at h1
    match hs : c.args with
    | [] => rw [hs] at h1; simp at h1
    | [a] => rw [hs] at h1; simp at h1
    | [a, b] => exact ⟨a, b, rfl, h2 a (by rw [hs]; simp), h2 b (by rw [hs]; simp)⟩
    | a :: b :: d :: r => rw [hs] at h1; simp at h1; omega
  · rw [ar, e] at h1
    match hs : c.args with
    | [] => rw [hs] at h1; simp at h1
    | [a] => rw [hs] at h1; simp at h1
    | [a, b] => exact ⟨a, b, rfl, h2 a (by rw [hs]; simp), h2 b (by rw [hs]; simp)⟩
    | a :: b :: d :: r => rw [hs] at h1; simp at h1; omega
noncomputable def leafIdx (atoms : List Cond) (x : Cond) : Int := indexBy (fun own => decide (own = x)) 0 atoms
noncomputable def leafVal (atoms : List Cond) (values : List Bool) (x : Cond) : Bool := decide (0 ≤ leafIdx atoms x) && (decide (leafIdx atoms x < values.length) && values.getD (leafIdx atoms x).toNat false)
noncomputable def leafStep (values : List Bool) (x : Cond) (i : Nat) (own : Cond) (_ : Unit) : Sum Bool Unit := if decide (own = x) = true then .inl (decide ((i : Int) < values.length) && values.getD i false) else .inr ()
theorem leafLoop (values : List Bool) (x : Cond) : ∀ (s : List Cond) (i : Nat), loopL (leafStep values x) (fun _ => false) i s () =
    (decide (0 ≤ indexBy (fun own => decide (own = x)) i s) && (decide (indexBy (fun own => decide (own = x)) i s < values.length) && values.getD (indexBy (fun own => decide (own = x)) i s).toNat false))
  | [], i => by simp [loopL, indexBy]
  | c :: r, i => by
    simp -implicitDefEqProofs only [loopL, leafStep]
    by_cases h : c = x
    · have e : indexBy (fun own => decide (own = x)) i (c :: r) = (i : Int) := by simp [indexBy, h]
      rw [e]
      simp [h]
    · have e : indexBy (fun own => decide (own = x)) i (c :: r) = indexBy (fun own => decide (own = x)) (i + 1) r := by simp [indexBy, h]
      rw [e, ← leafLoop values x r (i + 1)]
      simp [h]
theorem r_spec_l22Leaf {fl f2 f3 : Bool} (k : Nat) (hk : 290271069732864 + 3 ≤ k) (x : Cond) (s : List Cond) (v : List Bool) (hs0 : wl Cond.w s ≤ 1099511627776) :
    run E noExt k 81 [x.enc fl, .sl f2 (s.map (Cond.enc f2)), .sl f3 (v.map AV.bool)] [] = some (.bool (leafVal s v x), []) := by
  have hs1 := Nat.le_trans (wl_length _ s) hs0
  have hs : s.length ≤ 140737488355328 := by omega
  have c1 : ∀ c ∈ s, run E noExt (k - 1) 67 [c.enc f2, x.enc fl] [] = some (.bool (decide (c = x)), []) := fun c hc => r_spec_EqualConds _ (by omega) _ _ (by have := wl_mem (w := Cond.w) hc; omega)
  obtain ⟨k, rfl⟩ : ∃ j, k = j + 1 := ⟨k - 1, by omega⟩
  rw [run_succ rfl rfl, body_eq (nt := 30) (fn := Go.Proofs.Try.f81) (by kernel_rfl) rfl rfl rfl rfl rfl rfl rfl rfl]
  simp -implicitDefEqProofs only [Nat.add_sub_cancel] at c1
  simp -implicitDefEqProofs only [QS, QN, ZRS, ↓ZDS, Go.Proofs.Try.f81, enc_Cond, SN, evCutRow, Int.reduceToNat, id_eq, Int.reduceBEq, Int.reduceLE, Int.reduceLT, SS, one_ne2, num_ne2, TIS, MDS, AV.cells, AV.isCell, Value.cells, Nat.reduceAdd, Nat.reduceEqDiff, Nat.reduceLT, Nat.reduceLeDiff, Nat.reduceMul, Nat.reduceSub, reduceIte]
  rw [ev_loop]
  refine Eq.trans (loop_list (Q := fun g x => thenEnd E.P [] _ 0 (thenEv E _ _ _ _ _ (outOf 0 x)) = some (.bool g, [])) (s) (leafStep v x) (fun _ => false)
    (fun i b => { sl := [(1, .sl f2 (s.map (Cond.enc f2))), (2, .sl f3 (v.map AV.bool)), (3, .ptr 0 0), (7, .int .i64 (i : Nat))], bx := [(0, [.int .i64 x.op, .int .i64 x.a, .int .i64 x.b, .sl fl (x.args.map (Cond.enc fl))])], nx := 1, nt := 30 }) (fun _ _ => True) (()) ?_ ?_ (by first | omega | (simp; omega)) (trivial) ?_) ?_
  · intro b _
    simp -implicitDefEqProofs only [QS, QN, QG, ZRS, ↓ZDS, ZRG, ↓ZDG, leaf_some, isNormal, ifEv_bool, gate_bool, gateP_bool, gateQ_bool, pick_bool, SN, evCutRow, Int.reduceToNat, id_eq, Int.reduceBEq, Int.reduceLE, Int.reduceLT, SS, one_ne2, num_ne2, TIS, MDS, AV.cells, AV.isCell, Value.cells, Nat.reduceAdd, Nat.reduceEqDiff, Nat.reduceLT, Nat.reduceLeDiff, Nat.reduceMul, Nat.reduceSub, reduceIte]
    repeat' (split <;> (rename_i h; (try simp -implicitDefEqProofs only [Bool.not_eq_true', Bool.not_eq_false', decide_eq_true_eq, decide_eq_false_iff_not] at h); (try simp -implicitDefEqProofs only [QS, QN, QG, ZRS, ↓ZDS, ZRG, ↓ZDG, *, leaf_some, isNormal, ifEv_bool, gate_bool, gateP_bool, gateQ_bool, pick_bool, SN, evCutRow, Int.reduceToNat, id_eq, Int.reduceBEq, Int.reduceLE, Int.reduceLT, SS, one_ne2, num_ne2, TIS, MDS, AV.cells, AV.isCell, Value.cells, Nat.reduceAdd, Nat.reduceEqDiff, Nat.reduceLT, Nat.reduceLeDiff, Nat.reduceMul, Nat.reduceSub, reduceIte])))
  · intro pre c r b hs' _
    have hx := (at_row hs' hs).1; have hc := (at_row hs' hs).2.1; have hlt := (at_row hs' hs).2.2.1; have hw1 := (at_row hs' hs).2.2.2.1; have hl9 := (at_row hs' hs).2.2.2.2
    clear hs'
    have c2 := c1 c hc
    simp -implicitDefEqProofs only [enc_Cond] at c2
    by_cases hv : ((pre.length : Nat) : Int) < (v.length : Nat)
    · have hvx : v[pre.length]? = some (v.getD pre.length false) := by
        rw [List.getD_eq_getElem?_getD, List.getElem?_eq_getElem (by omega)]; rfl
      simp -implicitDefEqProofs only [QS, QN, QG, ZRS, ↓ZDS, ZRG, ↓ZDG, enc_Cond, hx, hlt, hw1, hv, hvx, c2, leafStep, plan_81_4, keep_81_2, leaf_some, isNormal, ifEv_bool, gate_bool, gateP_bool, gateQ_bool, pick_bool, SN, evCutRow, Int.reduceToNat, id_eq, Int.reduceBEq, Int.reduceLE, Int.reduceLT, SS, one_ne2, num_ne2, TIS, MDS, AV.cells, AV.isCell, Value.cells, Nat.reduceAdd, Nat.reduceEqDiff, Nat.reduceLT, Nat.reduceLeDiff, Nat.reduceMul, Nat.reduceSub, reduceIte]
      repeat' (split <;> (rename_i h; (try simp -implicitDefEqProofs only [Bool.not_eq_true', Bool.not_eq_false', decide_eq_true_eq, decide_eq_false_iff_not] at h); (try simp -implicitDefEqProofs only [QS, QN, QG, ZRS, ↓ZDS, ZRG, ↓ZDG, *, enc_Cond, hx, hlt, hw1, hv, hvx, c2, leafStep, plan_81_4, keep_81_2, leaf_some, isNormal, ifEv_bool, gate_bool, gateP_bool, gateQ_bool, pick_bool, SN, evCutRow, Int.reduceToNat, id_eq, Int.reduceBEq, Int.reduceLE, Int.reduceLT, SS, one_ne2, num_ne2, TIS, MDS, AV.cells, AV.isCell, Value.cells, Nat.reduceAdd, Nat.reduceEqDiff, Nat.reduceLT, Nat.reduceLeDiff, Nat.reduceMul, Nat.reduceSub, reduceIte])))
    ·
      simp -implicitDefEqProofs only [QS, QN, QG, ZRS, ↓ZDS, ZRG, ↓ZDG, enc_Cond, hx, hlt, hw1, hv, c2, leafStep, plan_81_4, keep_81_2, leaf_some, isNormal, ifEv_bool, gate_bool, gateP_bool, gateQ_bool, pick_bool, SN, evCutRow, Int.reduceToNat, id_eq, Int.reduceBEq, Int.reduceLE, Int.reduceLT, SS, one_ne2, num_ne2, TIS, MDS, AV.cells, AV.isCell, Value.cells, Nat.reduceAdd, Nat.reduceEqDiff, Nat.reduceLT, Nat.reduceLeDiff, Nat.reduceMul, Nat.reduceSub, reduceIte]
      repeat' (split <;> (rename_i h; (try simp -implicitDefEqProofs only [Bool.not_eq_true', Bool.not_eq_false', decide_eq_true_eq, decide_eq_false_iff_not] at h); (try simp -implicitDefEqProofs only [QS, QN, QG, ZRS, ↓ZDS, ZRG, ↓ZDG, *, enc_Cond, hx, hlt, hw1, hv, c2, leafStep, plan_81_4, keep_81_2, leaf_some, isNormal, ifEv_bool, gate_bool, gateP_bool, gateQ_bool, pick_bool, SN, evCutRow, Int.reduceToNat, id_eq, Int.reduceBEq, Int.reduceLE, Int.reduceLT, SS, one_ne2, num_ne2, TIS, MDS, AV.cells, AV.isCell, Value.cells, Nat.reduceAdd, Nat.reduceEqDiff, Nat.reduceLT, Nat.reduceLeDiff, Nat.reduceMul, Nat.reduceSub, reduceIte])))
  · simp -implicitDefEqProofs only [firstRegion]; rw [keep_81_2]; simp -implicitDefEqProofs only [QS, QN, QG, ZRS, ↓ZDS, ZRG, ↓ZDG, SN, evCutRow, Int.reduceToNat, id_eq, Int.reduceBEq, Int.reduceLE, Int.reduceLT, SS, one_ne2, num_ne2, TIS, MDS, AV.cells, AV.isCell, Value.cells, Nat.reduceAdd, Nat.reduceEqDiff, Nat.reduceLT, Nat.reduceLeDiff, Nat.reduceMul, Nat.reduceSub, reduceIte]; first | done | rfl
  · rw [leafLoop]; rfl
theorem r_spec_l22Eval0 {fl f2 f3 : Bool} (s : List Cond) (v : List Bool) (hs0 : wl Cond.w s ≤ 1099511627776) (x : Cond) : ∀ (k : Nat), 290271069732864 + 4 * x.w + 5 ≤ k → x.valid = true →
    run E noExt k 68 [x.enc fl, .sl f2 (s.map (Cond.enc f2)), .sl f3 (v.map AV.bool)] [] = some (.bool (x.eval fun c => (c.op == 1) || leafVal s v c), []) := by
  induction x using Cond.induct with
  | h x ih =>
    intro k hk hv
    rw [x.w_eq] at hk
    have c0 := r_spec_l22Leaf (fl := fl) (f2 := f2) (f3 := f3) (k - 1) (by omega) x s v hs0
    have c1 : ∀ c ∈ x.args, c.valid = true → run E noExt (k - 1) 68 [c.enc fl, .sl f2 (s.map (Cond.enc f2)), .sl f3 (v.map AV.bool)] [] = some (.bool (c.eval fun c => (c.op == 1) || leafVal s v c), []) := fun c hc hcv => ih c hc _ (by have := wl_mem (w := Cond.w) hc; omega) hcv
    clear ih
    obtain ⟨a7, a8, a9⟩ := valid_args hv
    rw [x.eval_eq]
    by_cases e1 : x.op = 1
    · have b1 : (x.op == 1) = true := by simp [e1]
      have b7 : (x.op == 7) = false := by simp [e1]
      have b8 : (x.op == 8) = false := by simp [e1]
      have b9 : (x.op == 9) = false := by simp [e1]
      clear c0 c1
      obtain ⟨k, rfl⟩ : ∃ j, k = j + 1 := ⟨k - 1, by omega⟩
      rw [run_succ rfl rfl, body_eq (nt := 61) (fn := Go.Proofs.Try.f68) (by kernel_rfl) rfl rfl rfl rfl rfl rfl rfl rfl]
      simp -implicitDefEqProofs only [QS, QN, ZRS, ↓ZDS, Go.Proofs.Try.f68, enc_Cond, b1, b7, b8, b9, ifEv_bool, gate_bool, gateP_bool, gateQ_bool, pick_bool, SN, evCutRow, Int.reduceToNat, id_eq, Int.reduceBEq, Int.reduceLE, Int.reduceLT, SS, one_ne2, num_ne2, TIS, MDS, AV.cells, AV.isCell, Value.cells, Nat.reduceAdd, Nat.reduceEqDiff, Nat.reduceLT, Nat.reduceLeDiff, Nat.reduceMul, Nat.reduceSub, reduceIte]
      repeat' (split <;> (rename_i h; (try simp -implicitDefEqProofs only [Bool.not_eq_true', Bool.not_eq_false', decide_eq_true_eq, decide_eq_false_iff_not] at h); (try simp -implicitDefEqProofs only [QS, QN, ZRS, ↓ZDS, *, enc_Cond, b1, b7, b8, b9, ifEv_bool, gate_bool, gateP_bool, gateQ_bool, pick_bool, SN, evCutRow, Int.reduceToNat, id_eq, Int.reduceBEq, Int.reduceLE, Int.reduceLT, SS, one_ne2, num_ne2, TIS, MDS, AV.cells, AV.isCell, Value.cells, Nat.reduceAdd, Nat.reduceEqDiff, Nat.reduceLT, Nat.reduceLeDiff, Nat.reduceMul, Nat.reduceSub, reduceIte])))
    · have b1 : (x.op == 1) = false := by simp [e1]
      by_cases e7 : x.op = 7
      · have b7 : (x.op == 7) = true := by simp [e7]
        obtain ⟨a, ha, va⟩ := a7 e7
        have c2 := c1 a (by rw [ha]; simp) va
        clear c0 c1
        obtain ⟨k, rfl⟩ : ∃ j, k = j + 1 := ⟨k - 1, by omega⟩
        rw [run_succ rfl rfl, body_eq (nt := 61) (fn := Go.Proofs.Try.f68) (by kernel_rfl) rfl rfl rfl rfl rfl rfl rfl rfl]
        simp -implicitDefEqProofs only [Nat.add_sub_cancel, enc_Cond] at c2
        simp -implicitDefEqProofs only [QS, QN, ZRS, ↓ZDS, Go.Proofs.Try.f68, enc_Cond, b1, b7, ha, c2, List.getD_cons_zero, ifEv_bool, gate_bool, gateP_bool, gateQ_bool, pick_bool, SN, evCutRow, Int.reduceToNat, id_eq, Int.reduceBEq, Int.reduceLE, Int.reduceLT, SS, one_ne2, num_ne2, TIS, MDS, AV.cells, AV.isCell, Value.cells, Nat.reduceAdd, Nat.reduceEqDiff, Nat.reduceLT, Nat.reduceLeDiff, Nat.reduceMul, Nat.reduceSub, reduceIte]
        repeat' (split <;> (rename_i h; (try simp -implicitDefEqProofs only [Bool.not_eq_true', Bool.not_eq_false', decide_eq_true_eq, decide_eq_false_iff_not] at h); (try simp -implicitDefEqProofs only [QS, QN, ZRS, ↓ZDS, *, enc_Cond, b1, b7, ha, c2, List.getD_cons_zero, ifEv_bool, gate_bool, gateP_bool, gateQ_bool, pick_bool, SN, evCutRow, Int.reduceToNat, id_eq, Int.reduceBEq, Int.reduceLE, Int.reduceLT, SS, one_ne2, num_ne2, TIS, MDS, AV.cells, AV.isCell, Value.cells, Nat.reduceAdd, Nat.reduceEqDiff, Nat.reduceLT, Nat.reduceLeDiff, Nat.reduceMul, Nat.reduceSub, reduceIte])))
      · have b7 : (x.op == 7) = false := by simp [e7]
        by_cases e8 : x.op = 8
        · have b8 : (x.op == 8) = true := by simp [e8]
          obtain ⟨a, b, ha, va, vb⟩ := a8 e8
          have c2 := c1 a (by rw [ha]; simp) va
          have c3 := c1 b (by rw [ha]; simp) vb
          clear c0 c1
          obtain ⟨k, rfl⟩ : ∃ j, k = j + 1 := ⟨k - 1, by omega⟩
          rw [run_succ rfl rfl, body_eq (nt := 61) (fn := Go.Proofs.Try.f68) (by kernel_rfl) rfl rfl rfl rfl rfl rfl rfl rfl]
          simp -implicitDefEqProofs only [Nat.add_sub_cancel, enc_Cond] at c2 c3
          simp -implicitDefEqProofs only [QS, QN, ZRS, ↓ZDS, Go.Proofs.Try.f68, enc_Cond, b1, b7, b8, ha, c2, c3, List.getD_cons_zero, List.getD_cons_succ, ifEv_bool, gate_bool, gateP_bool, gateQ_bool, pick_bool, SN, evCutRow, Int.reduceToNat, id_eq, Int.reduceBEq, Int.reduceLE, Int.reduceLT, SS, one_ne2, num_ne2, TIS, MDS, AV.cells, AV.isCell, Value.cells, Nat.reduceAdd, Nat.reduceEqDiff, Nat.reduceLT, Nat.reduceLeDiff, Nat.reduceMul, Nat.reduceSub, reduceIte]
          repeat' (split <;> (rename_i h; (try simp -implicitDefEqProofs only [Bool.not_eq_true', Bool.not_eq_false', decide_eq_true_eq, decide_eq_false_iff_not] at h); (try simp -implicitDefEqProofs only [QS, QN, ZRS, ↓ZDS, *, enc_Cond, b1, b7, b8, ha, c2, c3, List.getD_cons_zero, List.getD_cons_succ, ifEv_bool, gate_bool, gateP_bool, gateQ_bool, pick_bool, SN, evCutRow, Int.reduceToNat, id_eq, Int.reduceBEq, Int.reduceLE, Int.reduceLT, SS, one_ne2, num_ne2, TIS, MDS, AV.cells, AV.isCell, Value.cells, Nat.reduceAdd, Nat.reduceEqDiff, Nat.reduceLT, Nat.reduceLeDiff, Nat.reduceMul, Nat.reduceSub, reduceIte])))
        · have b8 : (x.op == 8) = false := by simp [e8]
          by_cases e9 : x.op = 9
          · have b9 : (x.op == 9) = true := by simp [e9]
            obtain ⟨a, b, ha, va, vb⟩ := a9 e9
            have c2 := c1 a (by rw [ha]; simp) va
            have c3 := c1 b (by rw [ha]; simp) vb
            clear c0 c1
            obtain ⟨k, rfl⟩ : ∃ j, k = j + 1 := ⟨k - 1, by omega⟩
            rw [run_succ rfl rfl, body_eq (nt := 61) (fn := Go.Proofs.Try.f68) (by kernel_rfl) rfl rfl rfl rfl rfl rfl rfl rfl]
            simp -implicitDefEqProofs only [Nat.add_sub_cancel, enc_Cond] at c2 c3
            simp -implicitDefEqProofs only [QS, QN, ZRS, ↓ZDS, Go.Proofs.Try.f68, enc_Cond, b1, b7, b8, b9, ha, c2, c3, List.getD_cons_zero, List.getD_cons_succ, ifEv_bool, gate_bool, gateP_bool, gateQ_bool, pick_bool, SN, evCutRow, Int.reduceToNat, id_eq, Int.reduceBEq, Int.reduceLE, Int.reduceLT, SS, one_ne2, num_ne2, TIS, MDS, AV.cells, AV.isCell, Value.cells, Nat.reduceAdd, Nat.reduceEqDiff, Nat.reduceLT, Nat.reduceLeDiff, Nat.reduceMul, Nat.reduceSub, reduceIte]
            repeat' (split <;> (rename_i h; (try simp -implicitDefEqProofs only [Bool.not_eq_true', Bool.not_eq_false', decide_eq_true_eq, decide_eq_false_iff_not] at h); (try simp -implicitDefEqProofs only [QS, QN, ZRS, ↓ZDS, *, enc_Cond, b1, b7, b8, b9, ha, c2, c3, List.getD_cons_zero, List.getD_cons_succ, ifEv_bool, gate_bool, gateP_bool, gateQ_bool, pick_bool, SN, evCutRow, Int.reduceToNat, id_eq, Int.reduceBEq, Int.reduceLE, Int.reduceLT, SS, one_ne2, num_ne2, TIS, MDS, AV.cells, AV.isCell, Value.cells, Nat.reduceAdd, Nat.reduceEqDiff, Nat.reduceLT, Nat.reduceLeDiff, Nat.reduceMul, Nat.reduceSub, reduceIte])))
          · have b9 : (x.op == 9) = false := by simp [e9]
            clear c1
            obtain ⟨k, rfl⟩ : ∃ j, k = j + 1 := ⟨k - 1, by omega⟩
            rw [run_succ rfl rfl, body_eq (nt := 61) (fn := Go.Proofs.Try.f68) (by kernel_rfl) rfl rfl rfl rfl rfl rfl rfl rfl]
            simp -implicitDefEqProofs only [Nat.add_sub_cancel, enc_Cond] at c0
            simp -implicitDefEqProofs only [QS, QN, ZRS, ↓ZDS, Go.Proofs.Try.f68, enc_Cond, b1, b7, b8, b9, c0, ifEv_bool, gate_bool, gateP_bool, gateQ_bool, pick_bool, SN, evCutRow, Int.reduceToNat, id_eq, Int.reduceBEq, Int.reduceLE, Int.reduceLT, SS, one_ne2, num_ne2, TIS, MDS, AV.cells, AV.isCell, Value.cells, Nat.reduceAdd, Nat.reduceEqDiff, Nat.reduceLT, Nat.reduceLeDiff, Nat.reduceMul, Nat.reduceSub, reduceIte]
            repeat' (split <;> (rename_i h; (try simp -implicitDefEqProofs only [Bool.not_eq_true', Bool.not_eq_false', decide_eq_true_eq, decide_eq_false_iff_not] at h); (try simp -implicitDefEqProofs only [QS, QN, ZRS, ↓ZDS, *, enc_Cond, b1, b7, b8, b9, c0, ifEv_bool, gate_bool, gateP_bool, gateQ_bool, pick_bool, SN, evCutRow, Int.reduceToNat, id_eq, Int.reduceBEq, Int.reduceLE, Int.reduceLT, SS, one_ne2, num_ne2, TIS, MDS, AV.cells, AV.isCell, Value.cells, Nat.reduceAdd, Nat.reduceEqDiff, Nat.reduceLT, Nat.reduceLeDiff, Nat.reduceMul, Nat.reduceSub, reduceIte])))
theorem r_spec_EvalBy {fl f2 f3 : Bool} (k : Nat) (hk : 294669116243968 + 7 ≤ k) (x : Cond) (s : List Cond) (v : List Bool) (hx : x.w ≤ 1099511627776) (hs0 : wl Cond.w s ≤ 1099511627776) :
    run E noExt k 52 [x.enc fl, .sl f2 (s.map (Cond.enc f2)), .sl f3 (v.map AV.bool)] [] = some (.bool (isCond x && x.eval fun c => (c.op == 1) || leafVal s v c), []) := by
  have c1 := r_spec_IsCond (fl := fl) (k - 1) (by omega) x hx
  have c2 := r_spec_l22Eval0 (fl := fl) (f2 := f2) (f3 := f3) s v hs0 x (k - 1) (by omega)
  obtain ⟨k, rfl⟩ : ∃ j, k = j + 1 := ⟨k - 1, by omega⟩
  rw [run_succ rfl rfl, body_eq (nt := 15) (fn := Go.Proofs.Try.f52) (by kernel_rfl) rfl rfl rfl rfl rfl rfl rfl rfl]
  simp -implicitDefEqProofs only [Nat.add_sub_cancel, enc_Cond] at c1 c2
  cases h : isCond x
  · simp -implicitDefEqProofs only [h] at c1
    simp -implicitDefEqProofs only [QS, QN, ZRS, ↓ZDS, Go.Proofs.Try.f52, enc_Cond, c1, ifEv_bool, gate_bool, gateP_bool, gateQ_bool, pick_bool, SN, evCutRow, Int.reduceToNat, id_eq, Int.reduceBEq, Int.reduceLE, Int.reduceLT, SS, one_ne2, num_ne2, TIS, MDS, AV.cells, AV.isCell, Value.cells, Nat.reduceAdd, Nat.reduceEqDiff, Nat.reduceLT, Nat.reduceLeDiff, Nat.reduceMul, Nat.reduceSub, reduceIte]
    repeat' (split <;> (rename_i h; (try simp -implicitDefEqProofs only [Bool.not_eq_true', Bool.not_eq_false', decide_eq_true_eq, decide_eq_false_iff_not] at h); (try simp -implicitDefEqProofs only [QS, QN, ZRS, ↓ZDS, *, enc_Cond, c1, ifEv_bool, gate_bool, gateP_bool, gateQ_bool, pick_bool, SN, evCutRow, Int.reduceToNat, id_eq, Int.reduceBEq, Int.reduceLE, Int.reduceLT, SS, one_ne2, num_ne2, TIS, MDS, AV.cells, AV.isCell, Value.cells, Nat.reduceAdd, Nat.reduceEqDiff, Nat.reduceLT, Nat.reduceLeDiff, Nat.reduceMul, Nat.reduceSub, reduceIte])))
  · have hv : x.valid = true := by
      unfold isCond at h
      simp -implicitDefEqProofs only [Bool.and_eq_true] at h
      exact h.2
    have c3 := c2 hv
    simp -implicitDefEqProofs only [h] at c1
    simp -implicitDefEqProofs only [QS, QN, ZRS, ↓ZDS, Go.Proofs.Try.f52, enc_Cond, c1, c3, ifEv_bool, gate_bool, gateP_bool, gateQ_bool, pick_bool, SN, evCutRow, Int.reduceToNat, id_eq, Int.reduceBEq, Int.reduceLE, Int.reduceLT, SS, one_ne2, num_ne2, TIS, MDS, AV.cells, AV.isCell, Value.cells, Nat.reduceAdd, Nat.reduceEqDiff, Nat.reduceLT, Nat.reduceLeDiff, Nat.reduceMul, Nat.reduceSub, reduceIte]
    repeat' (split <;> (rename_i h; (try simp -implicitDefEqProofs only [Bool.not_eq_true', Bool.not_eq_false', decide_eq_true_eq, decide_eq_false_iff_not] at h); (try simp -implicitDefEqProofs only [QS, QN, ZRS, ↓ZDS, *, enc_Cond, c1, c3, ifEv_bool, gate_bool, gateP_bool, gateQ_bool, pick_bool, SN, evCutRow, Int.reduceToNat, id_eq, Int.reduceBEq, Int.reduceLE, Int.reduceLT, SS, one_ne2, num_ne2, TIS, MDS, AV.cells, AV.isCell, Value.cells, Nat.reduceAdd, Nat.reduceEqDiff, Nat.reduceLT, Nat.reduceLeDiff, Nat.reduceMul, Nat.reduceSub, reduceIte])))
theorem r_impl_evalWith0 {fl : Bool} (F : Nat) (caps : List AV) (hP : Plain caps) (p : Cond → Bool) (K0 : Nat) (hF : ∀ k, K0 ≤ k → ∀ c : Cond, c.w ≤ 1099511627776 → run E noExt k F ([c.enc fl] ++ caps) [] = some (.bool (p c), [])) (x : Cond) (hmdF : E.md F = [] := by rfl) :
    ∀ (k : Nat), K0 + 290271069732864 + 4 * x.w + 2 ≤ k → x.valid = true → x.w ≤ 1099511627776 → run E noExt k 75 [x.enc fl, .clo F caps] [] = some (.bool (x.eval p), []) := by
  induction x using Cond.induct with
  | h x ih =>
    intro k hk hv hx
    have c0 := hF (k - 1) (by omega) x hx
    rw [x.w_eq] at hk hx
    have c1 : ∀ c ∈ x.args, c.valid = true → run E noExt (k - 1) 75 [c.enc fl, .clo F caps] [] = some (.bool (c.eval p), []) := fun c hc hcv => ih c hc _ (by have := wl_mem (w := Cond.w) hc; omega) hcv (by have := wl_mem (w := Cond.w) hc; omega)
    clear ih
    obtain ⟨a7, a8, a9⟩ := valid_args hv
    rw [x.eval_eq]
    have hLd := hP.lend
    by_cases e7 : x.op = 7
    · have b7 : (x.op == 7) = true := by simp [e7]
      obtain ⟨a, ha, va⟩ := a7 e7
      have c2 := c1 a (by rw [ha]; simp) va
      clear c0 c1 hF
      obtain ⟨k, rfl⟩ : ∃ j, k = j + 1 := ⟨k - 1, by omega⟩
      rw [run_succ rfl rfl, body_eq (nt := 51) (fn := Go.Proofs.Try.f75) (by kernel_rfl) rfl rfl rfl rfl rfl rfl rfl rfl]
      simp -implicitDefEqProofs only [Nat.add_sub_cancel, enc_Cond] at c2
      simp -implicitDefEqProofs only [QS, QN, ZRS, ↓ZDS, Go.Proofs.Try.f75, hmdF, enc_Cond, b7, ha, c2, hLd, List.getD_cons_zero, ifEv_bool, gate_bool, gateP_bool, gateQ_bool, pick_bool, SN, evCutRow, Int.reduceToNat, id_eq, Int.reduceBEq, Int.reduceLE, Int.reduceLT, SS, one_ne2, num_ne2, TIS, MDS, AV.cells, AV.isCell, Value.cells, Nat.reduceAdd, Nat.reduceEqDiff, Nat.reduceLT, Nat.reduceLeDiff, Nat.reduceMul, Nat.reduceSub, reduceIte]
      repeat' (split <;> (rename_i h; (try simp -implicitDefEqProofs only [Bool.not_eq_true', Bool.not_eq_false', decide_eq_true_eq, decide_eq_false_iff_not] at h); (try simp -implicitDefEqProofs only [QS, QN, ZRS, ↓ZDS, *, hmdF, enc_Cond, b7, ha, c2, hLd, List.getD_cons_zero, ifEv_bool, gate_bool, gateP_bool, gateQ_bool, pick_bool, SN, evCutRow, Int.reduceToNat, id_eq, Int.reduceBEq, Int.reduceLE, Int.reduceLT, SS, one_ne2, num_ne2, TIS, MDS, AV.cells, AV.isCell, Value.cells, Nat.reduceAdd, Nat.reduceEqDiff, Nat.reduceLT, Nat.reduceLeDiff, Nat.reduceMul, Nat.reduceSub, reduceIte])))
    · have b7 : (x.op == 7) = false := by simp [e7]
      by_cases e8 : x.op = 8
      · have b8 : (x.op == 8) = true := by simp [e8]
        obtain ⟨a, b, ha, va, vb⟩ := a8 e8
        have c2 := c1 a (by rw [ha]; simp) va
        have c3 := c1 b (by rw [ha]; simp) vb
        clear c0 c1 hF
        obtain ⟨k, rfl⟩ : ∃ j, k = j + 1 := ⟨k - 1, by omega⟩
        rw [run_succ rfl rfl, body_eq (nt := 51) (fn := Go.Proofs.Try.f75) (by kernel_rfl) rfl rfl rfl rfl rfl rfl rfl rfl]
        simp -implicitDefEqProofs only [Nat.add_sub_cancel, enc_Cond] at c2 c3
        simp -implicitDefEqProofs only [QS, QN, ZRS, ↓ZDS, Go.Proofs.Try.f75, hmdF, enc_Cond, b7, b8, ha, c2, c3, hLd, List.getD_cons_zero, List.getD_cons_succ, ifEv_bool, gate_bool, gateP_bool, gateQ_bool, pick_bool, SN, evCutRow, Int.reduceToNat, id_eq, Int.reduceBEq, Int.reduceLE, Int.reduceLT, SS, one_ne2, num_ne2, TIS, MDS, AV.cells, AV.isCell, Value.cells, Nat.reduceAdd, Nat.reduceEqDiff, Nat.reduceLT, Nat.reduceLeDiff, Nat.reduceMul, Nat.reduceSub, reduceIte]
        repeat' (split <;> (rename_i h; (try simp -implicitDefEqProofs only [Bool.not_eq_true', Bool.not_eq_false', decide_eq_true_eq, decide_eq_false_iff_not] at h); (try simp -implicitDefEqProofs only [QS, QN, ZRS, ↓ZDS, *, hmdF, enc_Cond, b7, b8, ha, c2, c3, hLd, List.getD_cons_zero, List.getD_cons_succ, ifEv_bool, gate_bool, gateP_bool, gateQ_bool, pick_bool, SN, evCutRow, Int.reduceToNat, id_eq, Int.reduceBEq, Int.reduceLE, Int.reduceLT, SS, one_ne2, num_ne2, TIS, MDS, AV.cells, AV.isCell, Value.cells, Nat.reduceAdd, Nat.reduceEqDiff, Nat.reduceLT, Nat.reduceLeDiff, Nat.reduceMul, Nat.reduceSub, reduceIte])))
      · have b8 : (x.op == 8) = false := by simp [e8]
        by_cases e9 : x.op = 9
        · have b9 : (x.op == 9) = true := by simp [e9]
          obtain ⟨a, b, ha, va, vb⟩ := a9 e9
          have c2 := c1 a (by rw [ha]; simp) va
          have c3 := c1 b (by rw [ha]; simp) vb
          clear c0 c1 hF
          obtain ⟨k, rfl⟩ : ∃ j, k = j + 1 := ⟨k - 1, by omega⟩
          rw [run_succ rfl rfl, body_eq (nt := 51) (fn := Go.Proofs.Try.f75) (by kernel_rfl) rfl rfl rfl rfl rfl rfl rfl rfl]
          simp -implicitDefEqProofs only [Nat.add_sub_cancel, enc_Cond] at c2 c3
          simp -implicitDefEqProofs only [QS, QN, ZRS, ↓ZDS, Go.Proofs.Try.f75, hmdF, enc_Cond, b7, b8, b9, ha, c2, c3, hLd, List.getD_cons_zero, List.getD_cons_succ, ifEv_bool, gate_bool, gateP_bool, gateQ_bool, pick_bool, SN, evCutRow, Int.reduceToNat, id_eq, Int.reduceBEq, Int.reduceLE, Int.reduceLT, SS, one_ne2, num_ne2, TIS, MDS, AV.cells, AV.isCell, Value.cells, Nat.reduceAdd, Nat.reduceEqDiff, Nat.reduceLT, Nat.reduceLeDiff, Nat.reduceMul, Nat.reduceSub, reduceIte]
          repeat' (split <;> (rename_i h; (try simp -implicitDefEqProofs only [Bool.not_eq_true', Bool.not_eq_false', decide_eq_true_eq, decide_eq_false_iff_not] at h); (try simp -implicitDefEqProofs only [QS, QN, ZRS, ↓ZDS, *, hmdF, enc_Cond, b7, b8, b9, ha, c2, c3, hLd, List.getD_cons_zero, List.getD_cons_succ, ifEv_bool, gate_bool, gateP_bool, gateQ_bool, pick_bool, SN, evCutRow, Int.reduceToNat, id_eq, Int.reduceBEq, Int.reduceLE, Int.reduceLT, SS, one_ne2, num_ne2, TIS, MDS, AV.cells, AV.isCell, Value.cells, Nat.reduceAdd, Nat.reduceEqDiff, Nat.reduceLT, Nat.reduceLeDiff, Nat.reduceMul, Nat.reduceSub, reduceIte])))
        · have b9 : (x.op == 9) = false := by simp [e9]
          clear c1 hF
          obtain ⟨k, rfl⟩ : ∃ j, k = j + 1 := ⟨k - 1, by omega⟩
          rw [run_succ rfl rfl, body_eq (nt := 51) (fn := Go.Proofs.Try.f75) (by kernel_rfl) rfl rfl rfl rfl rfl rfl rfl rfl]
          simp -implicitDefEqProofs only [Nat.add_sub_cancel, enc_Cond, List.cons_append, List.nil_append] at c0
          simp -implicitDefEqProofs only [QS, QN, ZRS, ↓ZDS, Go.Proofs.Try.f75, hmdF, enc_Cond, b7, b8, b9, c0, hLd, ifEv_bool, gate_bool, gateP_bool, gateQ_bool, pick_bool, SN, evCutRow, Int.reduceToNat, id_eq, Int.reduceBEq, Int.reduceLE, Int.reduceLT, SS, one_ne2, num_ne2, TIS, MDS, AV.cells, AV.isCell, Value.cells, Nat.reduceAdd, Nat.reduceEqDiff, Nat.reduceLT, Nat.reduceLeDiff, Nat.reduceMul, Nat.reduceSub, reduceIte]
          repeat' (split <;> (rename_i h; (try simp -implicitDefEqProofs only [Bool.not_eq_true', Bool.not_eq_false', decide_eq_true_eq, decide_eq_false_iff_not] at h); (try simp -implicitDefEqProofs only [QS, QN, ZRS, ↓ZDS, *, hmdF, enc_Cond, b7, b8, b9, c0, hLd, ifEv_bool, gate_bool, gateP_bool, gateQ_bool, pick_bool, SN, evCutRow, Int.reduceToNat, id_eq, Int.reduceBEq, Int.reduceLE, Int.reduceLT, SS, one_ne2, num_ne2, TIS, MDS, AV.cells, AV.isCell, Value.cells, Nat.reduceAdd, Nat.reduceEqDiff, Nat.reduceLT, Nat.reduceLeDiff, Nat.reduceMul, Nat.reduceSub, reduceIte])))
theorem r_impl_EvalBy1 {fl f2 f3 : Bool} (k : Nat) (hk : 290271069732864 + 6 ≤ k) (s : List Cond) (v : List Bool) (hs0 : wl Cond.w s ≤ 1099511627776) (x : Cond) (hx : x.w ≤ 1099511627776) :
    run E noExt k 76 [x.enc fl, .cptr [.sl f2 (s.map (Cond.enc f2))], .cptr [.sl f3 (v.map AV.bool)]] [] = some (.bool ((x.op == 1) || leafVal s v x), []) := by
  have hs1 := Nat.le_trans (wl_length _ s) hs0
  have c1 := r_slices_IndexFunc_Cond (fl := f2) (k - 1) s (by omega) (by omega) 78 [.cptr [.int .i64 x.op, .int .i64 x.a, .int .i64 x.b, .sl fl (x.args.map (Cond.enc fl))]] (plain_of rfl) (fun own => decide (own = x)) (fun c hc => by
    have c0 := r_impl_EqualConds (fl := f2) (gl := fl) (k - 3) (by omega) c x (by have := wl_mem (w := Cond.w) hc; omega)
    rw [show k - 1 - 1 = (k - 3) + 1 by omega]
    rw [run_succ rfl rfl, body_eq (nt := 7) (fn := Go.Proofs.Try.f78) (by kernel_rfl) rfl rfl rfl rfl rfl rfl rfl rfl]
    simp -implicitDefEqProofs only [enc_Cond] at c0
    simp -implicitDefEqProofs only [QS, QN, ZRS, ↓ZDS, enc_Cond, Go.Proofs.Try.f78, c0, SN, evCutRow, Int.reduceToNat, id_eq, Int.reduceBEq, Int.reduceLE, Int.reduceLT, SS, one_ne2, num_ne2, TIS, MDS, AV.cells, AV.isCell, Value.cells, Nat.reduceAdd, Nat.reduceEqDiff, Nat.reduceLT, Nat.reduceLeDiff, Nat.reduceMul, Nat.reduceSub, reduceIte])
  obtain ⟨k, rfl⟩ : ∃ j, k = j + 1 := ⟨k - 1, by omega⟩
  rw [run_succ rfl rfl, body_eq (nt := 28) (fn := Go.Proofs.Try.f76) (by kernel_rfl) rfl rfl rfl rfl rfl rfl rfl rfl]
  simp -implicitDefEqProofs only [Nat.add_sub_cancel] at c1
  unfold leafVal leafIdx
  generalize indexBy (fun own => decide (own = x)) 0 s = i at c1 ⊢
  by_cases hv : 0 ≤ i ∧ i < (v.length : Nat)
  · have hvx : v[i.toNat]? = some (v.getD i.toNat false) := by
      rw [List.getD_eq_getElem?_getD, List.getElem?_eq_getElem (by omega)]; rfl
    have h1 := hv.1
    have h2 := hv.2
    simp -implicitDefEqProofs only [QS, QN, ZRS, ↓ZDS, Go.Proofs.Try.f76, enc_Cond, c1, hvx, h1, h2, ifEv_bool, gate_bool, gateP_bool, gateQ_bool, pick_bool, SN, evCutRow, Int.reduceToNat, id_eq, Int.reduceBEq, Int.reduceLE, Int.reduceLT, SS, one_ne2, num_ne2, TIS, MDS, AV.cells, AV.isCell, Value.cells, Nat.reduceAdd, Nat.reduceEqDiff, Nat.reduceLT, Nat.reduceLeDiff, Nat.reduceMul, Nat.reduceSub, reduceIte]
    repeat' (split <;> (rename_i h; (try simp -implicitDefEqProofs only [Bool.not_eq_true', Bool.not_eq_false', decide_eq_true_eq, decide_eq_false_iff_not] at h); (try simp -implicitDefEqProofs only [QS, QN, ZRS, ↓ZDS, *, enc_Cond, c1, hvx, h1, h2, ifEv_bool, gate_bool, gateP_bool, gateQ_bool, pick_bool, SN, evCutRow, Int.reduceToNat, id_eq, Int.reduceBEq, Int.reduceLE, Int.reduceLT, SS, one_ne2, num_ne2, TIS, MDS, AV.cells, AV.isCell, Value.cells, Nat.reduceAdd, Nat.reduceEqDiff, Nat.reduceLT, Nat.reduceLeDiff, Nat.reduceMul, Nat.reduceSub, reduceIte])))
  ·
    simp -implicitDefEqProofs only [QS, QN, ZRS, ↓ZDS, Go.Proofs.Try.f76, enc_Cond, c1, ifEv_bool, gate_bool, gateP_bool, gateQ_bool, pick_bool, SN, evCutRow, Int.reduceToNat, id_eq, Int.reduceBEq, Int.reduceLE, Int.reduceLT, SS, one_ne2, num_ne2, TIS, MDS, AV.cells, AV.isCell, Value.cells, Nat.reduceAdd, Nat.reduceEqDiff, Nat.reduceLT, Nat.reduceLeDiff, Nat.reduceMul, Nat.reduceSub, reduceIte]
    repeat' (split <;> (rename_i h; (try simp -implicitDefEqProofs only [Bool.not_eq_true', Bool.not_eq_false', decide_eq_true_eq, decide_eq_false_iff_not] at h); (try simp -implicitDefEqProofs only [QS, QN, ZRS, ↓ZDS, *, enc_Cond, c1, ifEv_bool, gate_bool, gateP_bool, gateQ_bool, pick_bool, SN, evCutRow, Int.reduceToNat, id_eq, Int.reduceBEq, Int.reduceLE, Int.reduceLT, SS, one_ne2, num_ne2, TIS, MDS, AV.cells, AV.isCell, Value.cells, Nat.reduceAdd, Nat.reduceEqDiff, Nat.reduceLT, Nat.reduceLeDiff, Nat.reduceMul, Nat.reduceSub, reduceIte])))
    all_goals first | done | (exfalso; omega) | skip
theorem r_impl_EvalBy {fl f2 f3 : Bool} (k : Nat) (hk : 884940186000000 + 7 ≤ k) (x : Cond) (s : List Cond) (v : List Bool) (hx : x.w ≤ 1099511627776) (hs0 : wl Cond.w s ≤ 1099511627776) :
    run E noExt k 59 [x.enc fl, .sl f2 (s.map (Cond.enc f2)), .sl f3 (v.map AV.bool)] [] = some (.bool (isCond x && x.eval fun c => (c.op == 1) || leafVal s v c), []) := by
  have c1 := r_impl_IsCond (fl := fl) (k - 1) (by omega) x hx
  have c2 := r_impl_evalWith0 (fl := fl) 76 [.cptr [.sl f2 (s.map (Cond.enc f2))], .cptr [.sl f3 (v.map AV.bool)]] (plain_of rfl) (fun c => (c.op == 1) || leafVal s v c) (290271069732864 + 6) (fun k hk c hc => r_impl_EvalBy1 k hk s v hs0 c hc) x rfl (k - 1) (by omega)
  obtain ⟨k, rfl⟩ : ∃ j, k = j + 1 := ⟨k - 1, by omega⟩
  rw [run_succ rfl rfl, body_eq (nt := 14) (fn := Go.Proofs.Try.f59) (by kernel_rfl) rfl rfl rfl rfl rfl rfl rfl rfl]
  simp -implicitDefEqProofs only [Nat.add_sub_cancel, enc_Cond] at c1 c2
  cases h : isCond x
  · simp -implicitDefEqProofs only [h] at c1
    simp -implicitDefEqProofs only [QS, QN, ZRS, ↓ZDS, Go.Proofs.Try.f59, enc_Cond, c1, ifEv_bool, gate_bool, gateP_bool, gateQ_bool, pick_bool, SN, evCutRow, Int.reduceToNat, id_eq, Int.reduceBEq, Int.reduceLE, Int.reduceLT, SS, one_ne2, num_ne2, TIS, MDS, AV.cells, AV.isCell, Value.cells, Nat.reduceAdd, Nat.reduceEqDiff, Nat.reduceLT, Nat.reduceLeDiff, Nat.reduceMul, Nat.reduceSub, reduceIte]
    repeat' (split <;> (rename_i h; (try simp -implicitDefEqProofs only [Bool.not_eq_true', Bool.not_eq_false', decide_eq_true_eq, decide_eq_false_iff_not] at h); (try simp -implicitDefEqProofs only [QS, QN, ZRS, ↓ZDS, *, enc_Cond, c1, ifEv_bool, gate_bool, gateP_bool, gateQ_bool, pick_bool, SN, evCutRow, Int.reduceToNat, id_eq, Int.reduceBEq, Int.reduceLE, Int.reduceLT, SS, one_ne2, num_ne2, TIS, MDS, AV.cells, AV.isCell, Value.cells, Nat.reduceAdd, Nat.reduceEqDiff, Nat.reduceLT, Nat.reduceLeDiff, Nat.reduceMul, Nat.reduceSub, reduceIte])))
  · have hv : x.valid = true := by
      unfold isCond at h
      simp -implicitDefEqProofs only [Bool.and_eq_true] at h
      exact h.2
    have c3 := c2 hv hx
    simp -implicitDefEqProofs only [h] at c1
    simp -implicitDefEqProofs only [QS, QN, ZRS, ↓ZDS, Go.Proofs.Try.f59, enc_Cond, c1, c3, ifEv_bool, gate_bool, gateP_bool, gateQ_bool, pick_bool, SN, evCutRow, Int.reduceToNat, id_eq, Int.reduceBEq, Int.reduceLE, Int.reduceLT, SS, one_ne2, num_ne2, TIS, MDS, AV.cells, AV.isCell, Value.cells, Nat.reduceAdd, Nat.reduceEqDiff, Nat.reduceLT, Nat.reduceLeDiff, Nat.reduceMul, Nat.reduceSub, reduceIte]
    repeat' (split <;> (rename_i h; (try simp -implicitDefEqProofs only [Bool.not_eq_true', Bool.not_eq_false', decide_eq_true_eq, decide_eq_false_iff_not] at h); (try simp -implicitDefEqProofs only [QS, QN, ZRS, ↓ZDS, *, enc_Cond, c1, c3, ifEv_bool, gate_bool, gateP_bool, gateQ_bool, pick_bool, SN, evCutRow, Int.reduceToNat, id_eq, Int.reduceBEq, Int.reduceLE, Int.reduceLT, SS, one_ne2, num_ne2, TIS, MDS, AV.cells, AV.isCell, Value.cells, Nat.reduceAdd, Nat.reduceEqDiff, Nat.reduceLT, Nat.reduceLeDiff, Nat.reduceMul, Nat.reduceSub, reduceIte])))
end Go.Proofs.Ytkadcnfpjppdbaa.Flat

