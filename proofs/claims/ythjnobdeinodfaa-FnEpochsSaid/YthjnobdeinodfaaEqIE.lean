/-
Epochs as they should be.
-/
import Derived.Test.YthjnobdeinodfaaEqI
set_option linter.unusedVariables false
set_option linter.unusedSimpArgs false
set_option maxRecDepth 10000
namespace Go.Proofs.Ythjnobdeinodfaa.Flat
noncomputable def isEpoch (e : Epoch) : Bool := inR e.number 0 999 && (isT e.at_ && (arePairs e.pairs && (isPolicy e.policy && (e.policy.version == e.number))))
theorem r_spec_IsEpoch {fl : Bool} (k : Nat) (hk : 290271069732864 + 13 ≤ k) (x : Epoch) (hx : x.w ≤ 1099511627776) : run E noExt k 41 [x.enc fl] [] = some (.bool (isEpoch x), []) := by
  unfold Epoch.w at hx
  have c1 := r_spec_IsPolicy (fl := fl) (k - 1) (by omega) x.policy (by omega)
  have c2 := r_spec_ArePairs (fl := fl) (k - 1) (by omega) x.pairs (by omega)
  obtain ⟨k, rfl⟩ : ∃ j, k = j + 1 := ⟨k - 1, by omega⟩
  rw [run_succ rfl rfl, body_eq (nt := 29) (fn := Go.Proofs.Try.f41) (by kernel_rfl) rfl rfl rfl rfl rfl rfl rfl rfl]
  simp -implicitDefEqProofs only [Nat.add_sub_cancel, enc_Policy] at c1 c2
  have c_spec_l1In := r_spec_l1In k (by omega)
  have c_spec_IsTime := r_spec_IsTime k (by omega)
  simp -implicitDefEqProofs only [QS, QN, Go.Proofs.Try.f41, c_spec_l1In, c_spec_IsTime, enc_Epoch, c1, c2, ifEv_bool, gate_bool, gateP_bool, gateQ_bool, pick_bool, SN, evCutRow, Int.reduceToNat, id_eq, Int.reduceBEq, Int.reduceLE, Int.reduceLT, SS, one_ne2, num_ne2, TIS, MDS, wanted, numbered, plainC, plainS, evEq, eqK, evBox, evAlloc, evStore, evLoad, evFieldAddr, behind, takeVal, AV.cells, AV.isCell, ofCells, ofCell, Value.cells, Nat.reduceAdd, Nat.reduceEqDiff, Nat.reduceLT, Nat.reduceLeDiff, Nat.reduceMul, Nat.reduceSub, reduceIte]
  repeat' (split <;> (rename_i h; (try simp -implicitDefEqProofs only [Bool.not_eq_true', Bool.not_eq_false', decide_eq_true_eq, decide_eq_false_iff_not] at h); (try simp -implicitDefEqProofs only [QS, QN, *, c_spec_l1In, c_spec_IsTime, enc_Epoch, c1, c2, ifEv_bool, gate_bool, gateP_bool, gateQ_bool, pick_bool, SN, evCutRow, Int.reduceToNat, id_eq, Int.reduceBEq, Int.reduceLE, Int.reduceLT, SS, one_ne2, num_ne2, TIS, MDS, wanted, numbered, plainC, plainS, evEq, eqK, evBox, evAlloc, evStore, evLoad, evFieldAddr, behind, takeVal, AV.cells, AV.isCell, ofCells, ofCell, Value.cells, Nat.reduceAdd, Nat.reduceEqDiff, Nat.reduceLT, Nat.reduceLeDiff, Nat.reduceMul, Nat.reduceSub, reduceIte])))
  all_goals simp -implicitDefEqProofs only [isEpoch, *, Bool.true_and, Bool.false_and, Bool.and_true, Bool.and_false]
theorem r_impl_IsEpoch {fl : Bool} (k : Nat) (hk : 290271069732864 + 13 ≤ k) (x : Epoch) (hx : x.w ≤ 1099511627776) : run E noExt k 22 [x.enc fl] [] = some (.bool (isEpoch x), []) := by
  unfold Epoch.w at hx
  have c1 := r_impl_IsPolicy (fl := fl) (k - 1) (by omega) x.policy (by omega)
  have c2 := r_impl_ArePairs (fl := fl) (k - 1) (by omega) x.pairs (by omega)
  obtain ⟨k, rfl⟩ : ∃ j, k = j + 1 := ⟨k - 1, by omega⟩
  rw [run_succ rfl rfl, body_eq (nt := 29) (fn := Go.Proofs.Try.f22) (by kernel_rfl) rfl rfl rfl rfl rfl rfl rfl rfl]
  simp -implicitDefEqProofs only [Nat.add_sub_cancel, enc_Policy] at c1 c2
  have c_impl_InRange := r_impl_InRange k (by omega)
  have c_impl_IsTime := r_impl_IsTime k (by omega)
  simp -implicitDefEqProofs only [QS, QN, Go.Proofs.Try.f22, c_impl_InRange, c_impl_IsTime, enc_Epoch, c1, c2, ifEv_bool, gate_bool, gateP_bool, gateQ_bool, pick_bool, SN, evCutRow, Int.reduceToNat, id_eq, Int.reduceBEq, Int.reduceLE, Int.reduceLT, SS, one_ne2, num_ne2, TIS, MDS, wanted, numbered, plainC, plainS, evEq, eqK, evBox, evAlloc, evStore, evLoad, evFieldAddr, behind, takeVal, AV.cells, AV.isCell, ofCells, ofCell, Value.cells, Nat.reduceAdd, Nat.reduceEqDiff, Nat.reduceLT, Nat.reduceLeDiff, Nat.reduceMul, Nat.reduceSub, reduceIte]
  repeat' (split <;> (rename_i h; (try simp -implicitDefEqProofs only [Bool.not_eq_true', Bool.not_eq_false', decide_eq_true_eq, decide_eq_false_iff_not] at h); (try simp -implicitDefEqProofs only [QS, QN, *, c_impl_InRange, c_impl_IsTime, enc_Epoch, c1, c2, ifEv_bool, gate_bool, gateP_bool, gateQ_bool, pick_bool, SN, evCutRow, Int.reduceToNat, id_eq, Int.reduceBEq, Int.reduceLE, Int.reduceLT, SS, one_ne2, num_ne2, TIS, MDS, wanted, numbered, plainC, plainS, evEq, eqK, evBox, evAlloc, evStore, evLoad, evFieldAddr, behind, takeVal, AV.cells, AV.isCell, ofCells, ofCell, Value.cells, Nat.reduceAdd, Nat.reduceEqDiff, Nat.reduceLT, Nat.reduceLeDiff, Nat.reduceMul, Nat.reduceSub, reduceIte])))
  all_goals simp -implicitDefEqProofs only [isEpoch, *, Bool.true_and, Bool.false_and, Bool.and_true, Bool.and_false]
def follows (l : List Epoch) (i : Nat) (e : Epoch) : Bool := decide (i = 0) || (decide ((l.getD (i - 1) default).number < e.number) && decide ((l.getD (i - 1) default).at_ ≤ e.at_))
noncomputable def epStep (l : List Epoch) (i : Nat) (e : Epoch) (_ : Unit) : Sum Bool Unit := if (isEpoch e && follows l i e) = true then .inr () else .inl false
noncomputable def areEpochs (l : List Epoch) : Bool := loopL (epStep l) (fun _ => decide ((l.length : Int) ≤ 6)) 0 l ()
theorem prev_at {l pre r : List Epoch} {e : Epoch} (h : l = pre ++ e :: r) (hl : l.length ≤ 140737488355328) (hp : pre.length ≠ 0) :
    IntKind.i64.wrap ((pre.length : Int) - 1) = ((pre.length - 1 : Nat) : Int) ∧ l[pre.length - 1]? = some (l.getD (pre.length - 1) default) ∧ ((0 : Int) < (pre.length : Int)) ∧ (0 : Int) ≤ ((pre.length - 1 : Nat) : Int) := by
  have h1 := (at_row h hl).2.2.2.2
  refine ⟨by rw [IntWalk.i64_in _ (by omega)]; omega, ?_, by omega, by omega⟩
  rw [List.getD_eq_getElem?_getD, List.getElem?_eq_getElem (by omega)]
  rfl
theorem r_spec_AreEpochs {fl : Bool} (k : Nat) (hk : 290271069732864 + 14 ≤ k) (l : List Epoch) (hw : wl Epoch.w l ≤ 1099511627776) : run E noExt k 28 [.sl fl (l.map (Epoch.enc fl))] [] = some (.bool (areEpochs l), []) := by
  have hl : l.length ≤ 140737488355328 := by have := wl_length Epoch.w l; omega
  have c1 : ∀ e ∈ l, run E noExt (k - 1) 41 [e.enc fl] [] = some (.bool (isEpoch e), []) := fun e he => r_spec_IsEpoch (fl := fl) (k - 1) (by omega) e (by have := wl_mem (w := Epoch.w) he; omega)
  obtain ⟨k, rfl⟩ : ∃ j, k = j + 1 := ⟨k - 1, by omega⟩
  rw [run_succ rfl rfl, body_eq (nt := 51) (fn := Go.Proofs.Try.f28) (by kernel_rfl) rfl rfl rfl rfl rfl rfl rfl rfl]
  simp -implicitDefEqProofs only [Nat.add_sub_cancel] at c1
  simp -implicitDefEqProofs only [QS, QN, Go.Proofs.Try.f28, SN, evCutRow, Int.reduceToNat, id_eq, Int.reduceBEq, Int.reduceLE, Int.reduceLT, SS, one_ne2, num_ne2, TIS, MDS, wanted, numbered, plainC, plainS, evEq, eqK, evBox, evAlloc, evStore, evLoad, evFieldAddr, behind, takeVal, AV.cells, AV.isCell, ofCells, ofCell, Value.cells, Nat.reduceAdd, Nat.reduceEqDiff, Nat.reduceLT, Nat.reduceLeDiff, Nat.reduceMul, Nat.reduceSub, reduceIte]
  rw [ev_loop]
  refine Eq.trans (loop_list (Q := fun g x => thenEnd E.P [] _ 0 (thenEv E _ _ _ _ _ (outOf 0 x)) = some (.bool g, [])) (l) (epStep l) (fun _ => decide ((l.length : Int) ≤ 6))
    (fun i b => { sl := [(0, .sl fl (l.map (Epoch.enc fl))), (3, .int .i64 (i : Nat))], bx := [], nx := 0, nt := 51 }) (fun _ _ => True) (()) ?_ ?_ (by first | omega | (simp; omega)) (trivial) ?_) ?_
  · intro b hb
    simp -implicitDefEqProofs only [QS, QN, QG, leaf_some, isNormal, ifEv_bool, gate_bool, gateP_bool, gateQ_bool, pick_bool, SN, evCutRow, Int.reduceToNat, id_eq, Int.reduceBEq, Int.reduceLE, Int.reduceLT, firstRegion, gc, keptBoxes, keptRows, dedup, nodupB, idx, renameB, AV.boxes, AV.boxess, AV.rows, AV.rowss, AV.mapO, AV.mapOs, SS, one_ne2, num_ne2, TIS, MDS, wanted, numbered, plainC, plainS, evEq, eqK, evBox, evAlloc, evStore, evLoad, evFieldAddr, behind, takeVal, AV.cells, AV.isCell, ofCells, ofCell, Value.cells, Nat.reduceAdd, Nat.reduceEqDiff, Nat.reduceLT, Nat.reduceLeDiff, Nat.reduceMul, Nat.reduceSub, reduceIte]
    repeat' (split <;> (rename_i h; (try simp -implicitDefEqProofs only [Bool.not_eq_true', Bool.not_eq_false', decide_eq_true_eq, decide_eq_false_iff_not] at h); (try simp -implicitDefEqProofs only [QS, QN, QG, *, leaf_some, isNormal, ifEv_bool, gate_bool, gateP_bool, gateQ_bool, pick_bool, SN, evCutRow, Int.reduceToNat, id_eq, Int.reduceBEq, Int.reduceLE, Int.reduceLT, firstRegion, gc, keptBoxes, keptRows, dedup, nodupB, idx, renameB, AV.boxes, AV.boxess, AV.rows, AV.rowss, AV.mapO, AV.mapOs, SS, one_ne2, num_ne2, TIS, MDS, wanted, numbered, plainC, plainS, evEq, eqK, evBox, evAlloc, evStore, evLoad, evFieldAddr, behind, takeVal, AV.cells, AV.isCell, ofCells, ofCell, Value.cells, Nat.reduceAdd, Nat.reduceEqDiff, Nat.reduceLT, Nat.reduceLeDiff, Nat.reduceMul, Nat.reduceSub, reduceIte])))
  · intro pre e r b hs' hb
    have hx := (at_row hs' hl).1; have hc := (at_row hs' hl).2.1; have hlt := (at_row hs' hl).2.2.1; have hw1 := (at_row hs' hl).2.2.2.1; have hl9 := (at_row hs' hl).2.2.2.2
    have c2 := c1 e hc
    simp -implicitDefEqProofs only [enc_Epoch] at c2
    have hst : follows l pre.length e = (decide (pre.length = 0) || (decide ((l.getD (pre.length - 1) default).number < e.number) && decide ((l.getD (pre.length - 1) default).at_ ≤ e.at_))) := rfl
    by_cases h0 : pre.length = 0
    · have hd : decide (pre.length = 0) = true := by simp [h0]
      have hg0 : decide ((0 : Int) < (pre.length : Int)) = false := by simp [h0]
      clear hs'
      generalize hv : isEpoch e = v at c2
      cases v <;> simp -implicitDefEqProofs only [hd, Bool.true_or] at hst
      ·
        simp -implicitDefEqProofs only [QS, QN, QG, enc_Epoch, hx, hlt, hw1, c2, hg0, hv, hst, epStep, plan_28_4, keep_28_2, leaf_some, isNormal, ifEv_bool, gate_bool, gateP_bool, gateQ_bool, pick_bool, SN, evCutRow, Int.reduceToNat, id_eq, Int.reduceBEq, Int.reduceLE, Int.reduceLT, firstRegion, gc, keptBoxes, keptRows, dedup, nodupB, idx, renameB, AV.boxes, AV.boxess, AV.rows, AV.rowss, AV.mapO, AV.mapOs, SS, one_ne2, num_ne2, TIS, MDS, wanted, numbered, plainC, plainS, evEq, eqK, evBox, evAlloc, evStore, evLoad, evFieldAddr, behind, takeVal, AV.cells, AV.isCell, ofCells, ofCell, Value.cells, Nat.reduceAdd, Nat.reduceEqDiff, Nat.reduceLT, Nat.reduceLeDiff, Nat.reduceMul, Nat.reduceSub, reduceIte]
        repeat' (split <;> (rename_i h; (try simp -implicitDefEqProofs only [Bool.not_eq_true', Bool.not_eq_false', decide_eq_true_eq, decide_eq_false_iff_not] at h); (try simp -implicitDefEqProofs only [QS, QN, QG, *, enc_Epoch, hx, hlt, hw1, c2, hg0, hv, hst, epStep, plan_28_4, keep_28_2, leaf_some, isNormal, ifEv_bool, gate_bool, gateP_bool, gateQ_bool, pick_bool, SN, evCutRow, Int.reduceToNat, id_eq, Int.reduceBEq, Int.reduceLE, Int.reduceLT, firstRegion, gc, keptBoxes, keptRows, dedup, nodupB, idx, renameB, AV.boxes, AV.boxess, AV.rows, AV.rowss, AV.mapO, AV.mapOs, SS, one_ne2, num_ne2, TIS, MDS, wanted, numbered, plainC, plainS, evEq, eqK, evBox, evAlloc, evStore, evLoad, evFieldAddr, behind, takeVal, AV.cells, AV.isCell, ofCells, ofCell, Value.cells, Nat.reduceAdd, Nat.reduceEqDiff, Nat.reduceLT, Nat.reduceLeDiff, Nat.reduceMul, Nat.reduceSub, reduceIte])))
      ·
        simp -implicitDefEqProofs only [QS, QN, QG, enc_Epoch, hx, hlt, hw1, c2, hg0, hv, hst, epStep, plan_28_4, keep_28_2, leaf_some, isNormal, ifEv_bool, gate_bool, gateP_bool, gateQ_bool, pick_bool, SN, evCutRow, Int.reduceToNat, id_eq, Int.reduceBEq, Int.reduceLE, Int.reduceLT, firstRegion, gc, keptBoxes, keptRows, dedup, nodupB, idx, renameB, AV.boxes, AV.boxess, AV.rows, AV.rowss, AV.mapO, AV.mapOs, SS, one_ne2, num_ne2, TIS, MDS, wanted, numbered, plainC, plainS, evEq, eqK, evBox, evAlloc, evStore, evLoad, evFieldAddr, behind, takeVal, AV.cells, AV.isCell, ofCells, ofCell, Value.cells, Nat.reduceAdd, Nat.reduceEqDiff, Nat.reduceLT, Nat.reduceLeDiff, Nat.reduceMul, Nat.reduceSub, reduceIte]
        repeat' (split <;> (rename_i h; (try simp -implicitDefEqProofs only [Bool.not_eq_true', Bool.not_eq_false', decide_eq_true_eq, decide_eq_false_iff_not] at h); (try simp -implicitDefEqProofs only [QS, QN, QG, *, enc_Epoch, hx, hlt, hw1, c2, hg0, hv, hst, epStep, plan_28_4, keep_28_2, leaf_some, isNormal, ifEv_bool, gate_bool, gateP_bool, gateQ_bool, pick_bool, SN, evCutRow, Int.reduceToNat, id_eq, Int.reduceBEq, Int.reduceLE, Int.reduceLT, firstRegion, gc, keptBoxes, keptRows, dedup, nodupB, idx, renameB, AV.boxes, AV.boxess, AV.rows, AV.rowss, AV.mapO, AV.mapOs, SS, one_ne2, num_ne2, TIS, MDS, wanted, numbered, plainC, plainS, evEq, eqK, evBox, evAlloc, evStore, evLoad, evFieldAddr, behind, takeVal, AV.cells, AV.isCell, ofCells, ofCell, Value.cells, Nat.reduceAdd, Nat.reduceEqDiff, Nat.reduceLT, Nat.reduceLeDiff, Nat.reduceMul, Nat.reduceSub, reduceIte])))
    · obtain ⟨f1, f2, f3, f4⟩ := prev_at hs' hl h0
      have hd : decide (pre.length = 0) = false := by simp [h0]
      have hg0 : decide ((0 : Int) < (pre.length : Int)) = true := by simp -implicitDefEqProofs only [decide_eq_true_eq]; exact f3
      have g1 : decide (e.number ≤ (l.getD (pre.length - 1) default).number) = !decide ((l.getD (pre.length - 1) default).number < e.number) := by rw [Bool.eq_iff_iff]; simp
      have g2 : decide (e.at_ < (l.getD (pre.length - 1) default).at_) = !decide ((l.getD (pre.length - 1) default).at_ ≤ e.at_) := by rw [Bool.eq_iff_iff]; simp
      clear hs'
      generalize hv : isEpoch e = v at c2
      generalize decide ((l.getD (pre.length - 1) default).number < e.number) = p1 at hst g1
      generalize decide ((l.getD (pre.length - 1) default).at_ ≤ e.at_) = p2 at hst g2
      cases v <;> cases p1 <;> cases p2 <;> simp -implicitDefEqProofs only [hd, Bool.false_or, Bool.and_true, Bool.and_false, Bool.not_true, Bool.not_false] at hst g1 g2
      all_goals
        simp -implicitDefEqProofs only [QS, QN, QG, enc_Epoch, hx, hlt, hw1, c2, hg0, f1, f2, f4, g1, g2, hv, hst, epStep, plan_28_4, keep_28_2, leaf_some, isNormal, ifEv_bool, gate_bool, gateP_bool, gateQ_bool, pick_bool, SN, evCutRow, Int.reduceToNat, id_eq, Int.reduceBEq, Int.reduceLE, Int.reduceLT, firstRegion, gc, keptBoxes, keptRows, dedup, nodupB, idx, renameB, AV.boxes, AV.boxess, AV.rows, AV.rowss, AV.mapO, AV.mapOs, SS, one_ne2, num_ne2, TIS, MDS, wanted, numbered, plainC, plainS, evEq, eqK, evBox, evAlloc, evStore, evLoad, evFieldAddr, behind, takeVal, AV.cells, AV.isCell, ofCells, ofCell, Value.cells, Nat.reduceAdd, Nat.reduceEqDiff, Nat.reduceLT, Nat.reduceLeDiff, Nat.reduceMul, Nat.reduceSub, reduceIte]
        repeat' (split <;> (rename_i h; (try simp -implicitDefEqProofs only [Bool.not_eq_true', Bool.not_eq_false', decide_eq_true_eq, decide_eq_false_iff_not] at h); (try simp -implicitDefEqProofs only [QS, QN, QG, *, enc_Epoch, hx, hlt, hw1, c2, hg0, f1, f2, f4, g1, g2, hv, hst, epStep, plan_28_4, keep_28_2, leaf_some, isNormal, ifEv_bool, gate_bool, gateP_bool, gateQ_bool, pick_bool, SN, evCutRow, Int.reduceToNat, id_eq, Int.reduceBEq, Int.reduceLE, Int.reduceLT, firstRegion, gc, keptBoxes, keptRows, dedup, nodupB, idx, renameB, AV.boxes, AV.boxess, AV.rows, AV.rowss, AV.mapO, AV.mapOs, SS, one_ne2, num_ne2, TIS, MDS, wanted, numbered, plainC, plainS, evEq, eqK, evBox, evAlloc, evStore, evLoad, evFieldAddr, behind, takeVal, AV.cells, AV.isCell, ofCells, ofCell, Value.cells, Nat.reduceAdd, Nat.reduceEqDiff, Nat.reduceLT, Nat.reduceLeDiff, Nat.reduceMul, Nat.reduceSub, reduceIte])))
  · simp -implicitDefEqProofs only [firstRegion]; rw [keep_28_2]; simp -implicitDefEqProofs only [QS, QN, QG, SN, evCutRow, Int.reduceToNat, id_eq, Int.reduceBEq, Int.reduceLE, Int.reduceLT, firstRegion, gc, keptBoxes, keptRows, dedup, nodupB, idx, renameB, AV.boxes, AV.boxess, AV.rows, AV.rowss, AV.mapO, AV.mapOs, SS, one_ne2, num_ne2, TIS, MDS, wanted, numbered, plainC, plainS, evEq, eqK, evBox, evAlloc, evStore, evLoad, evFieldAddr, behind, takeVal, AV.cells, AV.isCell, ofCells, ofCell, Value.cells, Nat.reduceAdd, Nat.reduceEqDiff, Nat.reduceLT, Nat.reduceLeDiff, Nat.reduceMul, Nat.reduceSub, reduceIte]; first | done | rfl
  · rfl
theorem r_impl_AreEpochs {fl : Bool} (k : Nat) (hk : 290271069732864 + 14 ≤ k) (l : List Epoch) (hw : wl Epoch.w l ≤ 1099511627776) : run E noExt k 7 [.sl fl (l.map (Epoch.enc fl))] [] = some (.bool (areEpochs l), []) := by
  have hl : l.length ≤ 140737488355328 := by have := wl_length Epoch.w l; omega
  have c1 : ∀ e ∈ l, run E noExt (k - 1) 22 [e.enc fl] [] = some (.bool (isEpoch e), []) := fun e he => r_impl_IsEpoch (fl := fl) (k - 1) (by omega) e (by have := wl_mem (w := Epoch.w) he; omega)
  obtain ⟨k, rfl⟩ : ∃ j, k = j + 1 := ⟨k - 1, by omega⟩
  rw [run_succ rfl rfl, body_eq (nt := 45) (fn := Go.Proofs.Try.f7) (by kernel_rfl) rfl rfl rfl rfl rfl rfl rfl rfl]
  simp -implicitDefEqProofs only [Nat.add_sub_cancel] at c1
  simp -implicitDefEqProofs only [QS, QN, Go.Proofs.Try.f7, SN, evCutRow, Int.reduceToNat, id_eq, Int.reduceBEq, Int.reduceLE, Int.reduceLT, SS, one_ne2, num_ne2, TIS, MDS, wanted, numbered, plainC, plainS, evEq, eqK, evBox, evAlloc, evStore, evLoad, evFieldAddr, behind, takeVal, AV.cells, AV.isCell, ofCells, ofCell, Value.cells, Nat.reduceAdd, Nat.reduceEqDiff, Nat.reduceLT, Nat.reduceLeDiff, Nat.reduceMul, Nat.reduceSub, reduceIte]
  rw [ev_loop]
  refine Eq.trans (loop_list (Q := fun g x => thenEnd E.P [] _ 0 (thenEv E _ _ _ _ _ (outOf 0 x)) = some (.bool g, [])) (l) (epStep l) (fun _ => decide ((l.length : Int) ≤ 6))
    (fun i b => { sl := [(0, .sl fl (l.map (Epoch.enc fl))), (5, .sl fl (l.map (Epoch.enc fl))), (6, .int .i64 (l.length : Nat)), (7, .int .i64 (i : Nat))], bx := [], nx := 0, nt := 45 }) (fun _ _ => True) (()) ?_ ?_ (by first | omega | (simp; omega)) (trivial) ?_) ?_
  · intro b hb
    simp -implicitDefEqProofs only [QS, QN, QG, leaf_some, isNormal, ifEv_bool, gate_bool, gateP_bool, gateQ_bool, pick_bool, SN, evCutRow, Int.reduceToNat, id_eq, Int.reduceBEq, Int.reduceLE, Int.reduceLT, firstRegion, gc, keptBoxes, keptRows, dedup, nodupB, idx, renameB, AV.boxes, AV.boxess, AV.rows, AV.rowss, AV.mapO, AV.mapOs, SS, one_ne2, num_ne2, TIS, MDS, wanted, numbered, plainC, plainS, evEq, eqK, evBox, evAlloc, evStore, evLoad, evFieldAddr, behind, takeVal, AV.cells, AV.isCell, ofCells, ofCell, Value.cells, Nat.reduceAdd, Nat.reduceEqDiff, Nat.reduceLT, Nat.reduceLeDiff, Nat.reduceMul, Nat.reduceSub, reduceIte]
    repeat' (split <;> (rename_i h; (try simp -implicitDefEqProofs only [Bool.not_eq_true', Bool.not_eq_false', decide_eq_true_eq, decide_eq_false_iff_not] at h); (try simp -implicitDefEqProofs only [QS, QN, QG, *, leaf_some, isNormal, ifEv_bool, gate_bool, gateP_bool, gateQ_bool, pick_bool, SN, evCutRow, Int.reduceToNat, id_eq, Int.reduceBEq, Int.reduceLE, Int.reduceLT, firstRegion, gc, keptBoxes, keptRows, dedup, nodupB, idx, renameB, AV.boxes, AV.boxess, AV.rows, AV.rowss, AV.mapO, AV.mapOs, SS, one_ne2, num_ne2, TIS, MDS, wanted, numbered, plainC, plainS, evEq, eqK, evBox, evAlloc, evStore, evLoad, evFieldAddr, behind, takeVal, AV.cells, AV.isCell, ofCells, ofCell, Value.cells, Nat.reduceAdd, Nat.reduceEqDiff, Nat.reduceLT, Nat.reduceLeDiff, Nat.reduceMul, Nat.reduceSub, reduceIte])))
  · intro pre e r b hs' hb
    have hx := (at_row hs' hl).1; have hc := (at_row hs' hl).2.1; have hlt := (at_row hs' hl).2.2.1; have hw1 := (at_row hs' hl).2.2.2.1; have hl9 := (at_row hs' hl).2.2.2.2
    have c2 := c1 e hc
    simp -implicitDefEqProofs only [enc_Epoch] at c2
    have hst : follows l pre.length e = (decide (pre.length = 0) || (decide ((l.getD (pre.length - 1) default).number < e.number) && decide ((l.getD (pre.length - 1) default).at_ ≤ e.at_))) := rfl
    by_cases h0 : pre.length = 0
    · have hd : decide (pre.length = 0) = true := by simp [h0]
      have hg0 : decide ((0 : Int) < (pre.length : Int)) = false := by simp [h0]
      clear hs'
      generalize hv : isEpoch e = v at c2
      cases v <;> simp -implicitDefEqProofs only [hd, Bool.true_or] at hst
      ·
        simp -implicitDefEqProofs only [QS, QN, QG, enc_Epoch, hx, hlt, hw1, c2, hg0, hv, hst, epStep, plan_7_4, keep_7_2, leaf_some, isNormal, ifEv_bool, gate_bool, gateP_bool, gateQ_bool, pick_bool, SN, evCutRow, Int.reduceToNat, id_eq, Int.reduceBEq, Int.reduceLE, Int.reduceLT, firstRegion, gc, keptBoxes, keptRows, dedup, nodupB, idx, renameB, AV.boxes, AV.boxess, AV.rows, AV.rowss, AV.mapO, AV.mapOs, SS, one_ne2, num_ne2, TIS, MDS, wanted, numbered, plainC, plainS, evEq, eqK, evBox, evAlloc, evStore, evLoad, evFieldAddr, behind, takeVal, AV.cells, AV.isCell, ofCells, ofCell, Value.cells, Nat.reduceAdd, Nat.reduceEqDiff, Nat.reduceLT, Nat.reduceLeDiff, Nat.reduceMul, Nat.reduceSub, reduceIte]
        repeat' (split <;> (rename_i h; (try simp -implicitDefEqProofs only [Bool.not_eq_true', Bool.not_eq_false', decide_eq_true_eq, decide_eq_false_iff_not] at h); (try simp -implicitDefEqProofs only [QS, QN, QG, *, enc_Epoch, hx, hlt, hw1, c2, hg0, hv, hst, epStep, plan_7_4, keep_7_2, leaf_some, isNormal, ifEv_bool, gate_bool, gateP_bool, gateQ_bool, pick_bool, SN, evCutRow, Int.reduceToNat, id_eq, Int.reduceBEq, Int.reduceLE, Int.reduceLT, firstRegion, gc, keptBoxes, keptRows, dedup, nodupB, idx, renameB, AV.boxes, AV.boxess, AV.rows, AV.rowss, AV.mapO, AV.mapOs, SS, one_ne2, num_ne2, TIS, MDS, wanted, numbered, plainC, plainS, evEq, eqK, evBox, evAlloc, evStore, evLoad, evFieldAddr, behind, takeVal, AV.cells, AV.isCell, ofCells, ofCell, Value.cells, Nat.reduceAdd, Nat.reduceEqDiff, Nat.reduceLT, Nat.reduceLeDiff, Nat.reduceMul, Nat.reduceSub, reduceIte])))
      ·
        simp -implicitDefEqProofs only [QS, QN, QG, enc_Epoch, hx, hlt, hw1, c2, hg0, hv, hst, epStep, plan_7_4, keep_7_2, leaf_some, isNormal, ifEv_bool, gate_bool, gateP_bool, gateQ_bool, pick_bool, SN, evCutRow, Int.reduceToNat, id_eq, Int.reduceBEq, Int.reduceLE, Int.reduceLT, firstRegion, gc, keptBoxes, keptRows, dedup, nodupB, idx, renameB, AV.boxes, AV.boxess, AV.rows, AV.rowss, AV.mapO, AV.mapOs, SS, one_ne2, num_ne2, TIS, MDS, wanted, numbered, plainC, plainS, evEq, eqK, evBox, evAlloc, evStore, evLoad, evFieldAddr, behind, takeVal, AV.cells, AV.isCell, ofCells, ofCell, Value.cells, Nat.reduceAdd, Nat.reduceEqDiff, Nat.reduceLT, Nat.reduceLeDiff, Nat.reduceMul, Nat.reduceSub, reduceIte]
        repeat' (split <;> (rename_i h; (try simp -implicitDefEqProofs only [Bool.not_eq_true', Bool.not_eq_false', decide_eq_true_eq, decide_eq_false_iff_not] at h); (try simp -implicitDefEqProofs only [QS, QN, QG, *, enc_Epoch, hx, hlt, hw1, c2, hg0, hv, hst, epStep, plan_7_4, keep_7_2, leaf_some, isNormal, ifEv_bool, gate_bool, gateP_bool, gateQ_bool, pick_bool, SN, evCutRow, Int.reduceToNat, id_eq, Int.reduceBEq, Int.reduceLE, Int.reduceLT, firstRegion, gc, keptBoxes, keptRows, dedup, nodupB, idx, renameB, AV.boxes, AV.boxess, AV.rows, AV.rowss, AV.mapO, AV.mapOs, SS, one_ne2, num_ne2, TIS, MDS, wanted, numbered, plainC, plainS, evEq, eqK, evBox, evAlloc, evStore, evLoad, evFieldAddr, behind, takeVal, AV.cells, AV.isCell, ofCells, ofCell, Value.cells, Nat.reduceAdd, Nat.reduceEqDiff, Nat.reduceLT, Nat.reduceLeDiff, Nat.reduceMul, Nat.reduceSub, reduceIte])))
    · obtain ⟨f1, f2, f3, f4⟩ := prev_at hs' hl h0
      have hd : decide (pre.length = 0) = false := by simp [h0]
      have hg0 : decide ((0 : Int) < (pre.length : Int)) = true := by simp -implicitDefEqProofs only [decide_eq_true_eq]; exact f3
      have g1 : decide (e.number ≤ (l.getD (pre.length - 1) default).number) = !decide ((l.getD (pre.length - 1) default).number < e.number) := by rw [Bool.eq_iff_iff]; simp
      have g2 : decide (e.at_ < (l.getD (pre.length - 1) default).at_) = !decide ((l.getD (pre.length - 1) default).at_ ≤ e.at_) := by rw [Bool.eq_iff_iff]; simp
      clear hs'
      generalize hv : isEpoch e = v at c2
      generalize decide ((l.getD (pre.length - 1) default).number < e.number) = p1 at hst g1
      generalize decide ((l.getD (pre.length - 1) default).at_ ≤ e.at_) = p2 at hst g2
      cases v <;> cases p1 <;> cases p2 <;> simp -implicitDefEqProofs only [hd, Bool.false_or, Bool.and_true, Bool.and_false, Bool.not_true, Bool.not_false] at hst g1 g2
      all_goals
        simp -implicitDefEqProofs only [QS, QN, QG, enc_Epoch, hx, hlt, hw1, c2, hg0, f1, f2, f4, g1, g2, hv, hst, epStep, plan_7_4, keep_7_2, leaf_some, isNormal, ifEv_bool, gate_bool, gateP_bool, gateQ_bool, pick_bool, SN, evCutRow, Int.reduceToNat, id_eq, Int.reduceBEq, Int.reduceLE, Int.reduceLT, firstRegion, gc, keptBoxes, keptRows, dedup, nodupB, idx, renameB, AV.boxes, AV.boxess, AV.rows, AV.rowss, AV.mapO, AV.mapOs, SS, one_ne2, num_ne2, TIS, MDS, wanted, numbered, plainC, plainS, evEq, eqK, evBox, evAlloc, evStore, evLoad, evFieldAddr, behind, takeVal, AV.cells, AV.isCell, ofCells, ofCell, Value.cells, Nat.reduceAdd, Nat.reduceEqDiff, Nat.reduceLT, Nat.reduceLeDiff, Nat.reduceMul, Nat.reduceSub, reduceIte]
        repeat' (split <;> (rename_i h; (try simp -implicitDefEqProofs only [Bool.not_eq_true', Bool.not_eq_false', decide_eq_true_eq, decide_eq_false_iff_not] at h); (try simp -implicitDefEqProofs only [QS, QN, QG, *, enc_Epoch, hx, hlt, hw1, c2, hg0, f1, f2, f4, g1, g2, hv, hst, epStep, plan_7_4, keep_7_2, leaf_some, isNormal, ifEv_bool, gate_bool, gateP_bool, gateQ_bool, pick_bool, SN, evCutRow, Int.reduceToNat, id_eq, Int.reduceBEq, Int.reduceLE, Int.reduceLT, firstRegion, gc, keptBoxes, keptRows, dedup, nodupB, idx, renameB, AV.boxes, AV.boxess, AV.rows, AV.rowss, AV.mapO, AV.mapOs, SS, one_ne2, num_ne2, TIS, MDS, wanted, numbered, plainC, plainS, evEq, eqK, evBox, evAlloc, evStore, evLoad, evFieldAddr, behind, takeVal, AV.cells, AV.isCell, ofCells, ofCell, Value.cells, Nat.reduceAdd, Nat.reduceEqDiff, Nat.reduceLT, Nat.reduceLeDiff, Nat.reduceMul, Nat.reduceSub, reduceIte])))
  · simp -implicitDefEqProofs only [firstRegion]; rw [keep_7_2]; simp -implicitDefEqProofs only [QS, QN, QG, SN, evCutRow, Int.reduceToNat, id_eq, Int.reduceBEq, Int.reduceLE, Int.reduceLT, firstRegion, gc, keptBoxes, keptRows, dedup, nodupB, idx, renameB, AV.boxes, AV.boxess, AV.rows, AV.rowss, AV.mapO, AV.mapOs, SS, one_ne2, num_ne2, TIS, MDS, wanted, numbered, plainC, plainS, evEq, eqK, evBox, evAlloc, evStore, evLoad, evFieldAddr, behind, takeVal, AV.cells, AV.isCell, ofCells, ofCell, Value.cells, Nat.reduceAdd, Nat.reduceEqDiff, Nat.reduceLT, Nat.reduceLeDiff, Nat.reduceMul, Nat.reduceSub, reduceIte]; first | done | rfl
  · rfl
end Go.Proofs.Ythjnobdeinodfaa.Flat
