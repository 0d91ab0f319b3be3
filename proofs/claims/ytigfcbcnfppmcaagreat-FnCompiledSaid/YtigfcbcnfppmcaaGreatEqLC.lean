/-
What was compiled decides as the policy: the law.
-/
import Derived.Test.YtigfcbcnfppmcaaGreatEqPI
import Derived.Test.YtigfcbcnfppmcaaGreatEqCM
import Derived.Test.YtigfcbcnfppmcaaGreatEqK
import Derived.Test.YtigfcbcnfppmcaaGreatEqX
set_option linter.unusedVariables false
set_option linter.unusedSimpArgs false
set_option maxRecDepth 10000
namespace Go.Proofs.YtigfcbcnfppmcaaGreat.Flat
theorem compD_len63 (p : Policy) (a o : Int) : (compD p a o).nodes.length ≤ 63 := fromTable_len _ _
set_option maxHeartbeats 8000000 in
theorem law_FnCompiled (bs : List Int) (hfit : FitL (fun _ => True) bs) (k : Nat) (hk : 1152921504606846976 ≤ k) : run E noExt k 5 [.sl false (bs.map byteA)] [] = some (.bool true, []) := by
  by_cases hlen : bs.length ≤ 1048576
  · have c0 := r_laws_big (fl := false) (k - 1) (by omega) bs (by omega)
    rw [decide_eq_false (by omega : ¬ (1048576 : Int) < (bs.length : Nat))] at c0
    have c1 := r_spec_DrawDecideBy (fl := false) (k - 1) (by omega) bs (by omega)
    have hll := caseD_len1 (bs := bs) (i := 0) (h := hashOf bs)
    have hsl := caseD_len (bs := bs) (i := 0) (h := hashOf bs)
    have hpw : (decP bs).1.w ≤ 1000 := by
      unfold Policy.w decP polPick
      split
      · exact Nat.le_trans anyPolicy_w (by decide)
      · exact Nat.le_trans policyD_w (by decide)
    generalize (caseD bs 0 (hashOf bs)).1 = l at *
    generalize (caseD bs 0 (hashOf bs)).2.1 = s at *
    generalize (decP bs).1 = p at *
    generalize decQ bs = q at *
    have hp1 : p.rules.length ≤ 1000 := Nat.le_trans (wl_length _ _) hpw
    have hpl : p.rules.length ≤ 140737488355328 := by omega
    have hal := atomsOf_len p q.action q.object
    have haw := wl_leaves (atomsOf_leaves p q.action q.object)
    have hdl := compD_len63 p q.action q.object
    have hsc := scals_leaves (atomsOf_leaves p q.action q.object)
    have c2 := r_impl_DecideBy (fl := true) (f2 := true) (f3 := true) (f4 := true) (k - 1) (by omega) l (by omega) s (by omega) p (by omega) q
    have c3 := r_impl_CompileFor (k - 1) (by omega) p (by omega) q.action q.object
    have c4 := r_spec_IsPolicy (fl := true) (k - 1) (by omega) p (by omega)
    have c5 := r_impl_AtomsFor (fl := true) (k - 1) p (by omega) (by omega) q.action q.object
    have c6 := r_impl_DecideCompiled (fl := true) (f2 := true) (f3 := true) (f4 := true) (k - 1) (by omega) l (by omega) s (by omega) ⟨atomsOf p q.action q.object, compD p q.action q.object, p.version⟩ (by unfold Compiled.w Diagram.w; simp only; omega) q
    have c7 := r_impl_IsDiagram (fl := true) (k - 1) (by omega) (compD p q.action q.object) (by unfold Diagram.w; omega)
    have c8 := r_impl_CountNodes (fl := true) (k - 1) (by omega) ⟨atomsOf p q.action q.object, compD p q.action q.object, p.version⟩
    have hok : compOk p q.action q.object = (isPolicy p && decide ((atomsOf p q.action q.object).length ≤ 6)) := rfl
    obtain ⟨k, rfl⟩ : ∃ j, k = j + 1 := ⟨k - 1, by omega⟩
    rw [run_succ rfl rfl, body_eq (nt := 74) (fn := Go.Proofs.Tryz.f5) (by kernel_rfl) rfl rfl rfl rfl rfl rfl rfl rfl]
    simp -implicitDefEqProofs only [Nat.add_sub_cancel, enc_Policy, enc_Request, enc_Compiled, enc_Diagram] at c0 c1 c2 c3 c4 c5 c6 c7 c8
    cases hA : compOk p q.action q.object
    · rw [hA, compFor_noI hA] at c3
      rw [hA] at hok
      cases hP : isPolicy p
      · rw [hP] at c4
        simp -implicitDefEqProofs only [QS, QN, QG, QO, ZRS, ↓ZDS, ZRG, ↓ZDG, ZRO, ↓ZDO, Go.Proofs.Tryz.f5, c0, c1, c3, c4, scals_Fact, shuts_Fact, tscals_Includes, shuts_Includes, shuts_Rule, ifEv_bool, gate_bool, pick_bool, SO, SH, evAppend, rowOf, noref, isRef, isPtr, noPtr, isBad, AV.isUndef, SN, evCutRow, Int.reduceToNat, id_eq, Int.reduceBEq, Int.reduceLE, Int.reduceLT, SS, one_ne2, num_ne2, TIS, MDS, AV.cells, AV.isCell, Value.cells, Nat.reduceAdd, Nat.reduceEqDiff, Nat.reduceLT, Nat.reduceLeDiff, Nat.reduceMul, Nat.reduceSub, reduceIte]
        trace_state
      · rw [hP] at c4
        rw [hP, Bool.true_and] at hok
        have hgt : decide ((((atomsOf p q.action q.object).length : Nat) : Int) > 6) = true := by
          have := of_decide_eq_false hok.symm
          exact decide_eq_true (by omega)
        simp -implicitDefEqProofs only [QS, QN, QG, QO, ZRS, ↓ZDS, ZRG, ↓ZDG, ZRO, ↓ZDO, Go.Proofs.Tryz.f5, c0, c1, c3, c4, c5, hgt, hsc, scals_Fact, shuts_Fact, tscals_Includes, shuts_Includes, shuts_Rule, ifEv_bool, gate_bool, pick_bool, SO, SH, evAppend, rowOf, noref, isRef, isPtr, noPtr, isBad, AV.isUndef, SN, evCutRow, Int.reduceToNat, id_eq, Int.reduceBEq, Int.reduceLE, Int.reduceLT, SS, one_ne2, num_ne2, TIS, MDS, AV.cells, AV.isCell, Value.cells, Nat.reduceAdd, Nat.reduceEqDiff, Nat.reduceLT, Nat.reduceLeDiff, Nat.reduceMul, Nat.reduceSub, reduceIte]
        trace_state
    · rw [hA, compFor_yesI hA] at c3
      have hd := compiled_decides (l := l) (s := s) (q := q) hA
      have hcf : compFor p q.action q.object = ⟨atomsOf p q.action q.object, compD p q.action q.object, p.version⟩ := if_pos hA
      have hD := (comp_answers hA).1
      rw [hcf] at hd
      rw [hd] at c6
      rw [hD] at c7
      clear hcf hd hok c4 c5
      by_cases hn : (compD p q.action q.object).nodes = []
      · rw [hn] at c3 c6 c7 c8
        simp -implicitDefEqProofs only [encR_nil, List.map_nil, List.length_nil, Int.natCast_zero] at c3 c6 c7 c8
        simp -implicitDefEqProofs only [QS, QN, QG, QO, ZRS, ↓ZDS, ZRG, ↓ZDG, ZRO, ↓ZDO, Go.Proofs.Tryz.f5, c0, c1, c2, c3, c6, c7, c8, hsc, scals_Fact, shuts_Fact, tscals_Includes, shuts_Includes, shuts_Rule, shuts_Cond, plan_5_7, ifEv_bool, gate_bool, pick_bool, SO, SH, evAppend, rowOf, noref, isRef, isPtr, noPtr, isBad, AV.isUndef, SN, evCutRow, Int.reduceToNat, id_eq, Int.reduceBEq, Int.reduceLE, Int.reduceLT, SS, one_ne2, num_ne2, TIS, MDS, AV.cells, AV.isCell, Value.cells, Nat.reduceAdd, Nat.reduceEqDiff, Nat.reduceLT, Nat.reduceLeDiff, Nat.reduceMul, Nat.reduceSub, reduceIte]
        trace_state
      · rw [encR_ne hn] at c3
        simp -implicitDefEqProofs only [QS, QN, QG, QO, ZRS, ↓ZDS, ZRG, ↓ZDG, ZRO, ↓ZDO, Go.Proofs.Tryz.f5, c0, c1, c2, c3, c6, c7, c8, hsc, scals_Fact, scals_Choice, shuts_Choice, shuts_Fact, tscals_Includes, shuts_Includes, shuts_Rule, shuts_Cond, plan_5_7, ifEv_bool, gate_bool, pick_bool, SO, SH, evAppend, rowOf, noref, isRef, isPtr, noPtr, isBad, AV.isUndef, SN, evCutRow, Int.reduceToNat, id_eq, Int.reduceBEq, Int.reduceLE, Int.reduceLT, SS, one_ne2, num_ne2, TIS, MDS, AV.cells, AV.isCell, Value.cells, Nat.reduceAdd, Nat.reduceEqDiff, Nat.reduceLT, Nat.reduceLeDiff, Nat.reduceMul, Nat.reduceSub, reduceIte]
        trace_state
  · have hl : bs.length ≤ 140737488355328 := hfit.1
    have c0 := r_laws_big (fl := false) (k - 1) (by omega) bs hl
    rw [decide_eq_true (by omega : (1048576 : Int) < (bs.length : Nat))] at c0
    obtain ⟨k, rfl⟩ : ∃ j, k = j + 1 := ⟨k - 1, by omega⟩
    rw [run_succ rfl rfl, body_eq (nt := 74) (fn := Go.Proofs.Tryz.f5) (by kernel_rfl) rfl rfl rfl rfl rfl rfl rfl rfl]
    simp -implicitDefEqProofs only [Nat.add_sub_cancel] at c0
    simp -implicitDefEqProofs only [QS, QN, QG, QO, ZRS, ↓ZDS, ZRG, ↓ZDG, ZRO, ↓ZDO, Go.Proofs.Tryz.f5, c0, SO, SH, evAppend, rowOf, noref, isRef, isPtr, noPtr, isBad, AV.isUndef, SN, evCutRow, Int.reduceToNat, id_eq, Int.reduceBEq, Int.reduceLE, Int.reduceLT, SS, one_ne2, num_ne2, TIS, MDS, AV.cells, AV.isCell, Value.cells, Nat.reduceAdd, Nat.reduceEqDiff, Nat.reduceLT, Nat.reduceLeDiff, Nat.reduceMul, Nat.reduceSub, reduceIte]
end Go.Proofs.YtigfcbcnfppmcaaGreat.Flat
