/-
Conditions and policies by the values of their leaves.
-/
import Derived.Test.YtigfcbcnfppmcaaGreatEqE
import Derived.Test.YtigfcbcnfppmcaaGreatEqG
import Derived.Test.YtigfcbcnfppmcaaGreatEqJ
set_option linter.unusedVariables false
set_option linter.unusedSimpArgs false
set_option maxRecDepth 10000
namespace Go.Proofs.YtigfcbcnfppmcaaGreat.Flat
mutual
def Cond.eval (p : Cond → Bool) : Cond → Bool
  | ⟨o, a, b, s⟩ => if (o == 7) = true then !((Cond.evals p s).getD 0 false) else if (o == 8) = true then (Cond.evals p s).getD 0 false && (Cond.evals p s).getD 1 false
      else if (o == 9) = true then (Cond.evals p s).getD 0 false || (Cond.evals p s).getD 1 false else p ⟨o, a, b, s⟩
def Cond.evals (p : Cond → Bool) : List Cond → List Bool
  | [] => []
  | c :: r => c.eval p :: Cond.evals p r
end
theorem evals_map (p : Cond → Bool) (s : List Cond) : Cond.evals p s = s.map (Cond.eval p) := by
  induction s with
  | nil => simp [Cond.evals]
  | cons c r ih => simp [Cond.evals, ih]
theorem Cond.eval_eq (p : Cond → Bool) (c : Cond) : c.eval p = if (c.op == 7) = true then !((c.args.map (Cond.eval p)).getD 0 false) else if (c.op == 8) = true then (c.args.map (Cond.eval p)).getD 0 false && (c.args.map (Cond.eval p)).getD 1 false
      else if (c.op == 9) = true then (c.args.map (Cond.eval p)).getD 0 false || (c.args.map (Cond.eval p)).getD 1 false else p c := by
  cases c
  simp -implicitDefEqProofs only [Cond.eval, evals_map]
/-- A node that is right has the arguments that its operation asks for. -/
theorem valid_args {c : Cond} (h : c.valid = true) : (c.op = 7 → ∃ a, c.args = [a] ∧ a.valid = true) ∧ (c.op = 8 → ∃ a b, c.args = [a, b] ∧ a.valid = true ∧ b.valid = true) ∧ (c.op = 9 → ∃ a b, c.args = [a, b] ∧ a.valid = true ∧ b.valid = true) := by
  rw [c.valid_eq] at h
  simp -implicitDefEqProofs only [nodeOk, Bool.and_eq_true, beq_iff_eq, List.all_eq_true] at h
  obtain ⟨⟨⟨h1, _⟩, _⟩, h2⟩ := h
  have ar : ∀ n : Int, arity n = if (n == 7) = true then 1 else if (n == 8) = true then 2 else if (n == 9) = true then 2 else if inR n 1 6 = true then 0 else -1 := fun _ => rfl
  refine ⟨fun e => ?_, fun e => ?_, fun e => ?_⟩
  · rw [ar, e] at h1
    match hs : c.args with
    | [] => rw [hs] at h1; simp at h1
    | [a] => exact ⟨a, rfl, h2 a (by rw [hs]; simp)⟩
    | a :: b :: r => rw [hs] at h1; simp at h1; omega
  · rw [ar, e] at h1
    match hs : c.args with
    | [] => rw [hs] at h1; simp at h1
    | [a] => rw [hs] at h1; simp at h1
    | [a, b] => exact ⟨a, b, rfl, h2 a (by rw [hs]; simp), h2 b (by rw [hs]; simp)⟩
    | a :: b :: d :: r => rw [hs] at h1; simp at h1; omega
  · rw [ar, e] at h1
    match hs : c.args with
    | [] => rw [hs] at h1; simp at h1
    | [a] => rw [hs] at h1; simp at h1
    | [a, b] => exact ⟨a, b, rfl, h2 a (by rw [hs]; simp), h2 b (by rw [hs]; simp)⟩
    | a :: b :: d :: r => rw [hs] at h1; simp at h1; omega
theorem r_impl_evalWith0 {fl : Bool} (F : Nat) (caps : List AV) (hP : Plain caps) (p : Cond → Bool) (K0 : Nat) (hF : ∀ k, K0 ≤ k → ∀ c : Cond, c.w ≤ 1099511627776 → run E noExt k F ([c.enc fl] ++ caps) [] = some (.bool (p c), [])) (x : Cond) (hmdF : E.md F = [] := by rfl) :
    ∀ (k : Nat), K0 + 290271069732864 + 4 * x.w + 2 ≤ k → x.valid = true → x.w ≤ 1099511627776 → run E noExt k 33 [x.enc fl, .clo F caps] [] = some (.bool (x.eval p), []) := by
  induction x using Cond.induct with
  | h x ih =>
    intro k hk hv hx
    have c0 := hF (k - 1) (by omega) x hx
    rw [x.w_eq] at hk hx
    have c1 : ∀ c ∈ x.args, c.valid = true → run E noExt (k - 1) 33 [c.enc fl, .clo F caps] [] = some (.bool (c.eval p), []) := fun c hc hcv => ih c hc _ (by have := wl_mem (w := Cond.w) hc; omega) hcv (by have := wl_mem (w := Cond.w) hc; omega)
    clear ih
    obtain ⟨a7, a8, a9⟩ := valid_args hv
    rw [x.eval_eq]
    have hLd := hP.lend
    by_cases e7 : x.op = 7
    · have b7 : (x.op == 7) = true := by simp [e7]
      obtain ⟨a, ha, va⟩ := a7 e7
      have c2 := c1 a (by rw [ha]; simp) va
      clear c0 c1 hF
      obtain ⟨k, rfl⟩ : ∃ j, k = j + 1 := ⟨k - 1, by omega⟩
      rw [run_succ rfl rfl, body_eq (nt := 51) (fn := Go.Proofs.Tryz.f33) (by kernel_rfl) rfl rfl rfl rfl rfl rfl rfl rfl]
      simp -implicitDefEqProofs only [Nat.add_sub_cancel, enc_Cond] at c2
      simp -implicitDefEqProofs only [QS, QN, Go.Proofs.Tryz.f33, hmdF, enc_Cond, b7, ha, c2, hLd, List.getD_cons_zero, ifEv_bool, gate_bool, gateP_bool, gateQ_bool, pick_bool, SN, evCutRow, Int.reduceToNat, id_eq, Int.reduceBEq, Int.reduceLE, Int.reduceLT, SS, one_ne2, num_ne2, TIS, MDS, wanted, numbered, plainC, plainS, evEq, eqK, evBox, evAlloc, evStore, evLoad, evFieldAddr, behind, takeVal, AV.cells, AV.isCell, ofCells, ofCell, Value.cells, Nat.reduceAdd, Nat.reduceEqDiff, Nat.reduceLT, Nat.reduceLeDiff, Nat.reduceMul, Nat.reduceSub, reduceIte]
      repeat' (split <;> (rename_i h; (try simp -implicitDefEqProofs only [Bool.not_eq_true', Bool.not_eq_false', decide_eq_true_eq, decide_eq_false_iff_not] at h); (try simp -implicitDefEqProofs only [QS, QN, *, hmdF, enc_Cond, b7, ha, c2, hLd, List.getD_cons_zero, ifEv_bool, gate_bool, gateP_bool, gateQ_bool, pick_bool, SN, evCutRow, Int.reduceToNat, id_eq, Int.reduceBEq, Int.reduceLE, Int.reduceLT, SS, one_ne2, num_ne2, TIS, MDS, wanted, numbered, plainC, plainS, evEq, eqK, evBox, evAlloc, evStore, evLoad, evFieldAddr, behind, takeVal, AV.cells, AV.isCell, ofCells, ofCell, Value.cells, Nat.reduceAdd, Nat.reduceEqDiff, Nat.reduceLT, Nat.reduceLeDiff, Nat.reduceMul, Nat.reduceSub, reduceIte])))
    · have b7 : (x.op == 7) = false := by simp [e7]
      by_cases e8 : x.op = 8
      · have b8 : (x.op == 8) = true := by simp [e8]
        obtain ⟨a, b, ha, va, vb⟩ := a8 e8
        have c2 := c1 a (by rw [ha]; simp) va
        have c3 := c1 b (by rw [ha]; simp) vb
        clear c0 c1 hF
        obtain ⟨k, rfl⟩ : ∃ j, k = j + 1 := ⟨k - 1, by omega⟩
        rw [run_succ rfl rfl, body_eq (nt := 51) (fn := Go.Proofs.Tryz.f33) (by kernel_rfl) rfl rfl rfl rfl rfl rfl rfl rfl]
        simp -implicitDefEqProofs only [Nat.add_sub_cancel, enc_Cond] at c2 c3
        simp -implicitDefEqProofs only [QS, QN, Go.Proofs.Tryz.f33, hmdF, enc_Cond, b7, b8, ha, c2, c3, hLd, List.getD_cons_zero, List.getD_cons_succ, ifEv_bool, gate_bool, gateP_bool, gateQ_bool, pick_bool, SN, evCutRow, Int.reduceToNat, id_eq, Int.reduceBEq, Int.reduceLE, Int.reduceLT, SS, one_ne2, num_ne2, TIS, MDS, wanted, numbered, plainC, plainS, evEq, eqK, evBox, evAlloc, evStore, evLoad, evFieldAddr, behind, takeVal, AV.cells, AV.isCell, ofCells, ofCell, Value.cells, Nat.reduceAdd, Nat.reduceEqDiff, Nat.reduceLT, Nat.reduceLeDiff, Nat.reduceMul, Nat.reduceSub, reduceIte]
        repeat' (split <;> (rename_i h; (try simp -implicitDefEqProofs only [Bool.not_eq_true', Bool.not_eq_false', decide_eq_true_eq, decide_eq_false_iff_not] at h); (try simp -implicitDefEqProofs only [QS, QN, *, hmdF, enc_Cond, b7, b8, ha, c2, c3, hLd, List.getD_cons_zero, List.getD_cons_succ, ifEv_bool, gate_bool, gateP_bool, gateQ_bool, pick_bool, SN, evCutRow, Int.reduceToNat, id_eq, Int.reduceBEq, Int.reduceLE, Int.reduceLT, SS, one_ne2, num_ne2, TIS, MDS, wanted, numbered, plainC, plainS, evEq, eqK, evBox, evAlloc, evStore, evLoad, evFieldAddr, behind, takeVal, AV.cells, AV.isCell, ofCells, ofCell, Value.cells, Nat.reduceAdd, Nat.reduceEqDiff, Nat.reduceLT, Nat.reduceLeDiff, Nat.reduceMul, Nat.reduceSub, reduceIte])))
      · have b8 : (x.op == 8) = false := by simp [e8]
        by_cases e9 : x.op = 9
        · have b9 : (x.op == 9) = true := by simp [e9]
          obtain ⟨a, b, ha, va, vb⟩ := a9 e9
          have c2 := c1 a (by rw [ha]; simp) va
          have c3 := c1 b (by rw [ha]; simp) vb
          clear c0 c1 hF
          obtain ⟨k, rfl⟩ : ∃ j, k = j + 1 := ⟨k - 1, by omega⟩
          rw [run_succ rfl rfl, body_eq (nt := 51) (fn := Go.Proofs.Tryz.f33) (by kernel_rfl) rfl rfl rfl rfl rfl rfl rfl rfl]
          simp -implicitDefEqProofs only [Nat.add_sub_cancel, enc_Cond] at c2 c3
          simp -implicitDefEqProofs only [QS, QN, Go.Proofs.Tryz.f33, hmdF, enc_Cond, b7, b8, b9, ha, c2, c3, hLd, List.getD_cons_zero, List.getD_cons_succ, ifEv_bool, gate_bool, gateP_bool, gateQ_bool, pick_bool, SN, evCutRow, Int.reduceToNat, id_eq, Int.reduceBEq, Int.reduceLE, Int.reduceLT, SS, one_ne2, num_ne2, TIS, MDS, wanted, numbered, plainC, plainS, evEq, eqK, evBox, evAlloc, evStore, evLoad, evFieldAddr, behind, takeVal, AV.cells, AV.isCell, ofCells, ofCell, Value.cells, Nat.reduceAdd, Nat.reduceEqDiff, Nat.reduceLT, Nat.reduceLeDiff, Nat.reduceMul, Nat.reduceSub, reduceIte]
          repeat' (split <;> (rename_i h; (try simp -implicitDefEqProofs only [Bool.not_eq_true', Bool.not_eq_false', decide_eq_true_eq, decide_eq_false_iff_not] at h); (try simp -implicitDefEqProofs only [QS, QN, *, hmdF, enc_Cond, b7, b8, b9, ha, c2, c3, hLd, List.getD_cons_zero, List.getD_cons_succ, ifEv_bool, gate_bool, gateP_bool, gateQ_bool, pick_bool, SN, evCutRow, Int.reduceToNat, id_eq, Int.reduceBEq, Int.reduceLE, Int.reduceLT, SS, one_ne2, num_ne2, TIS, MDS, wanted, numbered, plainC, plainS, evEq, eqK, evBox, evAlloc, evStore, evLoad, evFieldAddr, behind, takeVal, AV.cells, AV.isCell, ofCells, ofCell, Value.cells, Nat.reduceAdd, Nat.reduceEqDiff, Nat.reduceLT, Nat.reduceLeDiff, Nat.reduceMul, Nat.reduceSub, reduceIte])))
        · have b9 : (x.op == 9) = false := by simp [e9]
          clear c1 hF
          obtain ⟨k, rfl⟩ : ∃ j, k = j + 1 := ⟨k - 1, by omega⟩
          rw [run_succ rfl rfl, body_eq (nt := 51) (fn := Go.Proofs.Tryz.f33) (by kernel_rfl) rfl rfl rfl rfl rfl rfl rfl rfl]
          simp -implicitDefEqProofs only [Nat.add_sub_cancel, enc_Cond, List.cons_append, List.nil_append] at c0
          simp -implicitDefEqProofs only [QS, QN, Go.Proofs.Tryz.f33, hmdF, enc_Cond, b7, b8, b9, c0, hLd, ifEv_bool, gate_bool, gateP_bool, gateQ_bool, pick_bool, SN, evCutRow, Int.reduceToNat, id_eq, Int.reduceBEq, Int.reduceLE, Int.reduceLT, SS, one_ne2, num_ne2, TIS, MDS, wanted, numbered, plainC, plainS, evEq, eqK, evBox, evAlloc, evStore, evLoad, evFieldAddr, behind, takeVal, AV.cells, AV.isCell, ofCells, ofCell, Value.cells, Nat.reduceAdd, Nat.reduceEqDiff, Nat.reduceLT, Nat.reduceLeDiff, Nat.reduceMul, Nat.reduceSub, reduceIte]
          repeat' (split <;> (rename_i h; (try simp -implicitDefEqProofs only [Bool.not_eq_true', Bool.not_eq_false', decide_eq_true_eq, decide_eq_false_iff_not] at h); (try simp -implicitDefEqProofs only [QS, QN, *, hmdF, enc_Cond, b7, b8, b9, c0, hLd, ifEv_bool, gate_bool, gateP_bool, gateQ_bool, pick_bool, SN, evCutRow, Int.reduceToNat, id_eq, Int.reduceBEq, Int.reduceLE, Int.reduceLT, SS, one_ne2, num_ne2, TIS, MDS, wanted, numbered, plainC, plainS, evEq, eqK, evBox, evAlloc, evStore, evLoad, evFieldAddr, behind, takeVal, AV.cells, AV.isCell, ofCells, ofCell, Value.cells, Nat.reduceAdd, Nat.reduceEqDiff, Nat.reduceLT, Nat.reduceLeDiff, Nat.reduceMul, Nat.reduceSub, reduceIte])))
end Go.Proofs.YtigfcbcnfppmcaaGreat.Flat
