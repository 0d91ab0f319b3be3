/-
What is handed: compared.
-/
import Derived.Test.YtofkhbmdhahgpaaFlatCF
import Derived.Test.YtofkhbmdhahgpaaEqD
set_option linter.unusedVariables false
set_option linter.unusedSimpArgs false
set_option maxRecDepth 10000
namespace Go.Proofs.Ytofkhbmdhahgpaa.Flat
theorem eqb_Choice (x y : Choice) : decide (x = y) = ((x.atom == y.atom) && ((x.low == y.low) && (x.high == y.high))) := by
  cases x; cases y
  rw [Bool.eq_iff_iff]
  simp [Choice.mk.injEq]
theorem eqb_Diagram (x y : Diagram) : decide (x = y) = ((x.atoms == y.atoms) && (decide (x.nodes = y.nodes) && (x.root == y.root))) := by
  cases x; cases y
  rw [Bool.eq_iff_iff]
  simp [Diagram.mk.injEq]
theorem r_laws_eqBoolS {fl gl : Bool} (k : Nat) (hk : 290271069732864 + 2 ≤ k) (s t : List Bool) (hs0 : s.length ≤ 1099511627776) : run E noExt k 10 [.sl fl (s.map AV.bool), .sl gl (t.map AV.bool)] [] = some (.bool (decide (s = t)), []) := by
  obtain ⟨k, rfl⟩ : ∃ j, k = j + 1 := ⟨k - 1, by omega⟩
  rw [run_succ rfl rfl, body_eq (nt := 26) (fn := Go.Proofs.Try.f10) (by kernel_rfl) rfl rfl rfl rfl rfl rfl rfl rfl]
  have hs1 : s.length ≤ 1099511627776 := hs0
  have hs : s.length ≤ 140737488355328 := by omega
  simp -implicitDefEqProofs only [QS, QN, Go.Proofs.Try.f10, ifEv_bool, bne, SN, evCutRow, Int.reduceToNat, id_eq, Int.reduceBEq, Int.reduceLE, Int.reduceLT, SS, TIS, MDS, wanted, numbered, plainC, plainS, evEq, eqK, evBox, evAlloc, evStore, evLoad, evFieldAddr, behind, takeVal, AV.cells, AV.isCell, ofCells, ofCell, Value.cells, Nat.reduceAdd, Nat.reduceEqDiff, Nat.reduceLT, Nat.reduceLeDiff, Nat.reduceMul, Nat.reduceSub, reduceIte]
  split
  · rename_i h
    have h' : s ≠ t := by
      rintro rfl
      simp at h
    simp -implicitDefEqProofs only [QS, h, h', SS, TIS, MDS, wanted, numbered, plainC, plainS, evEq, eqK, evBox, evAlloc, evStore, evLoad, evFieldAddr, behind, takeVal, AV.cells, AV.isCell, ofCells, ofCell, Value.cells, Nat.reduceAdd, Nat.reduceEqDiff, Nat.reduceLT, Nat.reduceLeDiff, Nat.reduceMul, Nat.reduceSub, reduceIte]
  · rename_i h
    have hl : s.length = t.length := by
      have h2 : (s.length : Int) = t.length := by simpa using h
      omega
    simp -implicitDefEqProofs only [QS, h, SS, TIS, MDS, wanted, numbered, plainC, plainS, evEq, eqK, evBox, evAlloc, evStore, evLoad, evFieldAddr, behind, takeVal, AV.cells, AV.isCell, ofCells, ofCell, Value.cells, Nat.reduceAdd, Nat.reduceEqDiff, Nat.reduceLT, Nat.reduceLeDiff, Nat.reduceMul, Nat.reduceSub, reduceIte]
    rw [ev_loop]
    refine Eq.trans (loop_list (Q := fun g x => thenEnd E.P [] _ 0 (thenEv E _ _ _ _ _ (outOf 0 x)) = some (.bool g, [])) (s.zip t) eqStep (fun _ => true)
      (fun i _ => { sl := [(0, .sl fl (s.map AV.bool)), (1, .sl gl (t.map AV.bool)), (5, .int .i64 (i : Nat))], bx := [], nx := 0, nt := 26 }) (fun _ _ => True) () ?_ ?_ (by simp; omega) trivial ?_) ?_
    · intro b _
      have hz : (s.zip t).length = s.length := by simp; omega
      simp -implicitDefEqProofs only [QS, QN, QG, hz, leaf_some, isNormal, ifEv_bool, gate_bool, gateP_bool, gateQ_bool, pick_bool, SN, evCutRow, Int.reduceToNat, id_eq, Int.reduceBEq, Int.reduceLE, Int.reduceLT, firstRegion, gc, keptBoxes, keptRows, dedup, nodupB, idx, renameB, AV.boxes, AV.boxess, AV.rows, AV.rowss, AV.mapO, AV.mapOs, SS, TIS, MDS, wanted, numbered, plainC, plainS, evEq, eqK, evBox, evAlloc, evStore, evLoad, evFieldAddr, behind, takeVal, AV.cells, AV.isCell, ofCells, ofCell, Value.cells, Nat.reduceAdd, Nat.reduceEqDiff, Nat.reduceLT, Nat.reduceLeDiff, Nat.reduceMul, Nat.reduceSub, reduceIte]
      repeat' (split <;> (rename_i h; (try simp -implicitDefEqProofs only [Bool.not_eq_true', Bool.not_eq_false', decide_eq_true_eq, decide_eq_false_iff_not] at h); (try simp -implicitDefEqProofs only [QS, QN, QG, *, hz, leaf_some, isNormal, ifEv_bool, gate_bool, gateP_bool, gateQ_bool, pick_bool, SN, evCutRow, Int.reduceToNat, id_eq, Int.reduceBEq, Int.reduceLE, Int.reduceLT, firstRegion, gc, keptBoxes, keptRows, dedup, nodupB, idx, renameB, AV.boxes, AV.boxess, AV.rows, AV.rowss, AV.mapO, AV.mapOs, SS, TIS, MDS, wanted, numbered, plainC, plainS, evEq, eqK, evBox, evAlloc, evStore, evLoad, evFieldAddr, behind, takeVal, AV.cells, AV.isCell, ofCells, ofCell, Value.cells, Nat.reduceAdd, Nat.reduceEqDiff, Nat.reduceLT, Nat.reduceLeDiff, Nat.reduceMul, Nat.reduceSub, reduceIte])))
    · intro pre p r b hs' _
      have hx := (zip_at hl hs').1
      have hy := (zip_at hl hs').2.1
      have e1 := (zip_at hl hs').2.2.1
      have hlt := (at_row (s := s) (pre := pre.map Prod.fst) e1 hs).2.2.1
      have hw1 := (at_row (s := s) (pre := pre.map Prod.fst) e1 hs).2.2.2.1
      have hc := (at_row (s := s) (pre := pre.map Prod.fst) e1 hs).2.1
      simp -implicitDefEqProofs only [List.length_map] at hlt hw1
      clear e1 hs'
      have hq : decide (p.1 = p.2) = (p.1 == p.2) := by rw [Bool.eq_iff_iff]; simp
      simp -implicitDefEqProofs only [QS, QN, QG, hx, hy, hlt, hw1, hq, bne, eqStep, plan_10_6, keep_10_4, leaf_some, isNormal, ifEv_bool, gate_bool, gateP_bool, gateQ_bool, pick_bool, SN, evCutRow, Int.reduceToNat, id_eq, Int.reduceBEq, Int.reduceLE, Int.reduceLT, firstRegion, gc, keptBoxes, keptRows, dedup, nodupB, idx, renameB, AV.boxes, AV.boxess, AV.rows, AV.rowss, AV.mapO, AV.mapOs, SS, TIS, MDS, wanted, numbered, plainC, plainS, evEq, eqK, evBox, evAlloc, evStore, evLoad, evFieldAddr, behind, takeVal, AV.cells, AV.isCell, ofCells, ofCell, Value.cells, Nat.reduceAdd, Nat.reduceEqDiff, Nat.reduceLT, Nat.reduceLeDiff, Nat.reduceMul, Nat.reduceSub, reduceIte]
      repeat' (split <;> (rename_i h; (try simp -implicitDefEqProofs only [Bool.not_eq_true', Bool.not_eq_false', decide_eq_true_eq, decide_eq_false_iff_not] at h); (try simp -implicitDefEqProofs only [QS, QN, QG, *, hx, hy, hlt, hw1, hq, bne, eqStep, plan_10_6, keep_10_4, leaf_some, isNormal, ifEv_bool, gate_bool, gateP_bool, gateQ_bool, pick_bool, SN, evCutRow, Int.reduceToNat, id_eq, Int.reduceBEq, Int.reduceLE, Int.reduceLT, firstRegion, gc, keptBoxes, keptRows, dedup, nodupB, idx, renameB, AV.boxes, AV.boxess, AV.rows, AV.rowss, AV.mapO, AV.mapOs, SS, TIS, MDS, wanted, numbered, plainC, plainS, evEq, eqK, evBox, evAlloc, evStore, evLoad, evFieldAddr, behind, takeVal, AV.cells, AV.isCell, ofCells, ofCell, Value.cells, Nat.reduceAdd, Nat.reduceEqDiff, Nat.reduceLT, Nat.reduceLeDiff, Nat.reduceMul, Nat.reduceSub, reduceIte])))
      all_goals first | done | trivial
    · simp -implicitDefEqProofs only [firstRegion]; rw [keep_10_4]; simp -implicitDefEqProofs only [QS, QN, QG, SN, evCutRow, Int.reduceToNat, id_eq, Int.reduceBEq, Int.reduceLE, Int.reduceLT, firstRegion, gc, keptBoxes, keptRows, dedup, nodupB, idx, renameB, AV.boxes, AV.boxess, AV.rows, AV.rowss, AV.mapO, AV.mapOs, SS, TIS, MDS, wanted, numbered, plainC, plainS, evEq, eqK, evBox, evAlloc, evStore, evLoad, evFieldAddr, behind, takeVal, AV.cells, AV.isCell, ofCells, ofCell, Value.cells, Nat.reduceAdd, Nat.reduceEqDiff, Nat.reduceLT, Nat.reduceLeDiff, Nat.reduceMul, Nat.reduceSub, reduceIte]; first | done | rfl
    · rw [eqLoop _ _ _ hl]
theorem r_laws_eqChoice {fl gl : Bool} (k : Nat) (hk : 290271069732864 + 1 ≤ k) (x y : Choice) : run E noExt k 53 [x.enc fl, y.enc gl] [] = some (.bool (decide (x = y)), []) := by
  obtain ⟨k, rfl⟩ : ∃ j, k = j + 1 := ⟨k - 1, by omega⟩
  rw [run_succ rfl rfl, body_eq (nt := 20) (fn := Go.Proofs.Try.f53) (by kernel_rfl) rfl rfl rfl rfl rfl rfl rfl rfl]
  skip
  rw [eqb_Choice]
  simp -implicitDefEqProofs only [QS, QN, Go.Proofs.Try.f53, enc_Choice, bne, ifEv_bool, gate_bool, gateP_bool, gateQ_bool, pick_bool, SN, evCutRow, Int.reduceToNat, id_eq, Int.reduceBEq, Int.reduceLE, Int.reduceLT, SS, TIS, MDS, wanted, numbered, plainC, plainS, evEq, eqK, evBox, evAlloc, evStore, evLoad, evFieldAddr, behind, takeVal, AV.cells, AV.isCell, ofCells, ofCell, Value.cells, Nat.reduceAdd, Nat.reduceEqDiff, Nat.reduceLT, Nat.reduceLeDiff, Nat.reduceMul, Nat.reduceSub, reduceIte]
  repeat' (split <;> (rename_i h; (try simp -implicitDefEqProofs only [Bool.not_eq_true', Bool.not_eq_false', decide_eq_true_eq, decide_eq_false_iff_not] at h); (try simp -implicitDefEqProofs only [QS, QN, *, enc_Choice, bne, ifEv_bool, gate_bool, gateP_bool, gateQ_bool, pick_bool, SN, evCutRow, Int.reduceToNat, id_eq, Int.reduceBEq, Int.reduceLE, Int.reduceLT, SS, TIS, MDS, wanted, numbered, plainC, plainS, evEq, eqK, evBox, evAlloc, evStore, evLoad, evFieldAddr, behind, takeVal, AV.cells, AV.isCell, ofCells, ofCell, Value.cells, Nat.reduceAdd, Nat.reduceEqDiff, Nat.reduceLT, Nat.reduceLeDiff, Nat.reduceMul, Nat.reduceSub, reduceIte])))
  all_goals simp -implicitDefEqProofs only [*, Bool.true_and, Bool.false_and, Bool.and_true, Bool.and_false, Bool.false_eq_true, reduceIte]
theorem r_laws_eqChoiceS {fl gl : Bool} (k : Nat) (hk : 290271069732864 + 2 ≤ k) (s t : List Choice) (hs0 : s.length ≤ 1099511627776) : run E noExt k 33 [.sl fl (s.map (Choice.enc fl)), .sl gl (t.map (Choice.enc gl))] [] = some (.bool (decide (s = t)), []) := by
  obtain ⟨k, rfl⟩ : ∃ j, k = j + 1 := ⟨k - 1, by omega⟩
  rw [run_succ rfl rfl, body_eq (nt := 27) (fn := Go.Proofs.Try.f33) (by kernel_rfl) rfl rfl rfl rfl rfl rfl rfl rfl]
  have hs1 : s.length ≤ 1099511627776 := hs0
  have c1 : ∀ x ∈ s, ∀ y, run E noExt k 53 [x.enc fl, y.enc gl] [] = some (.bool (decide (x = y)), []) := fun x hx y => r_laws_eqChoice k (by omega) x y
  have hs : s.length ≤ 140737488355328 := by omega
  simp -implicitDefEqProofs only [QS, QN, Go.Proofs.Try.f33, ifEv_bool, bne, SN, evCutRow, Int.reduceToNat, id_eq, Int.reduceBEq, Int.reduceLE, Int.reduceLT, SS, TIS, MDS, wanted, numbered, plainC, plainS, evEq, eqK, evBox, evAlloc, evStore, evLoad, evFieldAddr, behind, takeVal, AV.cells, AV.isCell, ofCells, ofCell, Value.cells, Nat.reduceAdd, Nat.reduceEqDiff, Nat.reduceLT, Nat.reduceLeDiff, Nat.reduceMul, Nat.reduceSub, reduceIte]
  split
  · rename_i h
    have h' : s ≠ t := by
      rintro rfl
      simp at h
    simp -implicitDefEqProofs only [QS, h, h', SS, TIS, MDS, wanted, numbered, plainC, plainS, evEq, eqK, evBox, evAlloc, evStore, evLoad, evFieldAddr, behind, takeVal, AV.cells, AV.isCell, ofCells, ofCell, Value.cells, Nat.reduceAdd, Nat.reduceEqDiff, Nat.reduceLT, Nat.reduceLeDiff, Nat.reduceMul, Nat.reduceSub, reduceIte]
  · rename_i h
    have hl : s.length = t.length := by
      have h2 : (s.length : Int) = t.length := by simpa using h
      omega
    simp -implicitDefEqProofs only [QS, h, SS, TIS, MDS, wanted, numbered, plainC, plainS, evEq, eqK, evBox, evAlloc, evStore, evLoad, evFieldAddr, behind, takeVal, AV.cells, AV.isCell, ofCells, ofCell, Value.cells, Nat.reduceAdd, Nat.reduceEqDiff, Nat.reduceLT, Nat.reduceLeDiff, Nat.reduceMul, Nat.reduceSub, reduceIte]
    rw [ev_loop]
    refine Eq.trans (loop_list (Q := fun g x => thenEnd E.P [] _ 0 (thenEv E _ _ _ _ _ (outOf 0 x)) = some (.bool g, [])) (s.zip t) eqStep (fun _ => true)
      (fun i _ => { sl := [(0, .sl fl (s.map (Choice.enc fl))), (1, .sl gl (t.map (Choice.enc gl))), (5, .int .i64 (i : Nat))], bx := [], nx := 0, nt := 27 }) (fun _ _ => True) () ?_ ?_ (by simp; omega) trivial ?_) ?_
    · intro b _
      have hz : (s.zip t).length = s.length := by simp; omega
      simp -implicitDefEqProofs only [QS, QN, QG, hz, leaf_some, isNormal, ifEv_bool, gate_bool, gateP_bool, gateQ_bool, pick_bool, SN, evCutRow, Int.reduceToNat, id_eq, Int.reduceBEq, Int.reduceLE, Int.reduceLT, firstRegion, gc, keptBoxes, keptRows, dedup, nodupB, idx, renameB, AV.boxes, AV.boxess, AV.rows, AV.rowss, AV.mapO, AV.mapOs, SS, TIS, MDS, wanted, numbered, plainC, plainS, evEq, eqK, evBox, evAlloc, evStore, evLoad, evFieldAddr, behind, takeVal, AV.cells, AV.isCell, ofCells, ofCell, Value.cells, Nat.reduceAdd, Nat.reduceEqDiff, Nat.reduceLT, Nat.reduceLeDiff, Nat.reduceMul, Nat.reduceSub, reduceIte]
      repeat' (split <;> (rename_i h; (try simp -implicitDefEqProofs only [Bool.not_eq_true', Bool.not_eq_false', decide_eq_true_eq, decide_eq_false_iff_not] at h); (try simp -implicitDefEqProofs only [QS, QN, QG, *, hz, leaf_some, isNormal, ifEv_bool, gate_bool, gateP_bool, gateQ_bool, pick_bool, SN, evCutRow, Int.reduceToNat, id_eq, Int.reduceBEq, Int.reduceLE, Int.reduceLT, firstRegion, gc, keptBoxes, keptRows, dedup, nodupB, idx, renameB, AV.boxes, AV.boxess, AV.rows, AV.rowss, AV.mapO, AV.mapOs, SS, TIS, MDS, wanted, numbered, plainC, plainS, evEq, eqK, evBox, evAlloc, evStore, evLoad, evFieldAddr, behind, takeVal, AV.cells, AV.isCell, ofCells, ofCell, Value.cells, Nat.reduceAdd, Nat.reduceEqDiff, Nat.reduceLT, Nat.reduceLeDiff, Nat.reduceMul, Nat.reduceSub, reduceIte])))
    · intro pre p r b hs' _
      have hx := (zip_at hl hs').1
      have hy := (zip_at hl hs').2.1
      have e1 := (zip_at hl hs').2.2.1
      have hlt := (at_row (s := s) (pre := pre.map Prod.fst) e1 hs).2.2.1
      have hw1 := (at_row (s := s) (pre := pre.map Prod.fst) e1 hs).2.2.2.1
      have hc := (at_row (s := s) (pre := pre.map Prod.fst) e1 hs).2.1
      simp -implicitDefEqProofs only [List.length_map] at hlt hw1
      clear e1 hs'
      have c2 := c1 p.1 hc p.2
      simp -implicitDefEqProofs only [enc_Choice] at c2
      simp -implicitDefEqProofs only [QS, QN, QG, enc_Choice, hx, hy, hlt, hw1, c2, eqStep, plan_33_6, keep_33_4, leaf_some, isNormal, ifEv_bool, gate_bool, gateP_bool, gateQ_bool, pick_bool, SN, evCutRow, Int.reduceToNat, id_eq, Int.reduceBEq, Int.reduceLE, Int.reduceLT, firstRegion, gc, keptBoxes, keptRows, dedup, nodupB, idx, renameB, AV.boxes, AV.boxess, AV.rows, AV.rowss, AV.mapO, AV.mapOs, SS, TIS, MDS, wanted, numbered, plainC, plainS, evEq, eqK, evBox, evAlloc, evStore, evLoad, evFieldAddr, behind, takeVal, AV.cells, AV.isCell, ofCells, ofCell, Value.cells, Nat.reduceAdd, Nat.reduceEqDiff, Nat.reduceLT, Nat.reduceLeDiff, Nat.reduceMul, Nat.reduceSub, reduceIte]
      repeat' (split <;> (rename_i h; (try simp -implicitDefEqProofs only [Bool.not_eq_true', Bool.not_eq_false', decide_eq_true_eq, decide_eq_false_iff_not] at h); (try simp -implicitDefEqProofs only [QS, QN, QG, *, enc_Choice, hx, hy, hlt, hw1, c2, eqStep, plan_33_6, keep_33_4, leaf_some, isNormal, ifEv_bool, gate_bool, gateP_bool, gateQ_bool, pick_bool, SN, evCutRow, Int.reduceToNat, id_eq, Int.reduceBEq, Int.reduceLE, Int.reduceLT, firstRegion, gc, keptBoxes, keptRows, dedup, nodupB, idx, renameB, AV.boxes, AV.boxess, AV.rows, AV.rowss, AV.mapO, AV.mapOs, SS, TIS, MDS, wanted, numbered, plainC, plainS, evEq, eqK, evBox, evAlloc, evStore, evLoad, evFieldAddr, behind, takeVal, AV.cells, AV.isCell, ofCells, ofCell, Value.cells, Nat.reduceAdd, Nat.reduceEqDiff, Nat.reduceLT, Nat.reduceLeDiff, Nat.reduceMul, Nat.reduceSub, reduceIte])))
      all_goals first | done | trivial
    · simp -implicitDefEqProofs only [firstRegion]; rw [keep_33_4]; simp -implicitDefEqProofs only [QS, QN, QG, SN, evCutRow, Int.reduceToNat, id_eq, Int.reduceBEq, Int.reduceLE, Int.reduceLT, firstRegion, gc, keptBoxes, keptRows, dedup, nodupB, idx, renameB, AV.boxes, AV.boxess, AV.rows, AV.rowss, AV.mapO, AV.mapOs, SS, TIS, MDS, wanted, numbered, plainC, plainS, evEq, eqK, evBox, evAlloc, evStore, evLoad, evFieldAddr, behind, takeVal, AV.cells, AV.isCell, ofCells, ofCell, Value.cells, Nat.reduceAdd, Nat.reduceEqDiff, Nat.reduceLT, Nat.reduceLeDiff, Nat.reduceMul, Nat.reduceSub, reduceIte]; first | done | rfl
    · rw [eqLoop _ _ _ hl]
theorem r_laws_eqDiagram {fl gl : Bool} (k : Nat) (hk : 290271069732864 + 4 ≤ k) (x y : Diagram) (hx : x.w ≤ 1099511627776) : run E noExt k 9 [x.enc fl, y.enc gl] [] = some (.bool (decide (x = y)), []) := by
  obtain ⟨k, rfl⟩ : ∃ j, k = j + 1 := ⟨k - 1, by omega⟩
  rw [run_succ rfl rfl, body_eq (nt := 21) (fn := Go.Proofs.Try.f9) (by kernel_rfl) rfl rfl rfl rfl rfl rfl rfl rfl]
  unfold Diagram.w at hx
  have c_nodes := r_laws_eqChoiceS (fl := fl) (gl := gl) k (by omega) x.nodes y.nodes (by omega)
  rw [eqb_Diagram]
  simp -implicitDefEqProofs only [QS, QN, Go.Proofs.Try.f9, enc_Diagram, bne, c_nodes, ifEv_bool, gate_bool, gateP_bool, gateQ_bool, pick_bool, SN, evCutRow, Int.reduceToNat, id_eq, Int.reduceBEq, Int.reduceLE, Int.reduceLT, SS, TIS, MDS, wanted, numbered, plainC, plainS, evEq, eqK, evBox, evAlloc, evStore, evLoad, evFieldAddr, behind, takeVal, AV.cells, AV.isCell, ofCells, ofCell, Value.cells, Nat.reduceAdd, Nat.reduceEqDiff, Nat.reduceLT, Nat.reduceLeDiff, Nat.reduceMul, Nat.reduceSub, reduceIte]
  repeat' (split <;> (rename_i h; (try simp -implicitDefEqProofs only [Bool.not_eq_true', Bool.not_eq_false', decide_eq_true_eq, decide_eq_false_iff_not] at h); (try simp -implicitDefEqProofs only [QS, QN, *, enc_Diagram, bne, c_nodes, ifEv_bool, gate_bool, gateP_bool, gateQ_bool, pick_bool, SN, evCutRow, Int.reduceToNat, id_eq, Int.reduceBEq, Int.reduceLE, Int.reduceLT, SS, TIS, MDS, wanted, numbered, plainC, plainS, evEq, eqK, evBox, evAlloc, evStore, evLoad, evFieldAddr, behind, takeVal, AV.cells, AV.isCell, ofCells, ofCell, Value.cells, Nat.reduceAdd, Nat.reduceEqDiff, Nat.reduceLT, Nat.reduceLeDiff, Nat.reduceMul, Nat.reduceSub, reduceIte])))
  all_goals simp -implicitDefEqProofs only [*, Bool.true_and, Bool.false_and, Bool.and_true, Bool.and_false, Bool.false_eq_true, reduceIte]
end Go.Proofs.Ytofkhbmdhahgpaa.Flat
