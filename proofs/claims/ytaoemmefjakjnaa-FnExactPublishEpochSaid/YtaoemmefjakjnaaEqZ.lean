/-
What is handed: counted.
-/
import Derived.Test.YtaoemmefjakjnaaFlatCF
import Derived.Test.YtaoemmefjakjnaaEqD
set_option linter.unusedVariables false
set_option linter.unusedSimpArgs false
set_option maxRecDepth 10000
namespace Go.Proofs.Ytaoemmefjakjnaa.Flat
theorem r_laws_szIncludesS {fl : Bool} (k : Nat) (s : List Includes) (hk : 281474976710656 + 1 ≤ k) (hf : FitL (fun _ => True) s) (m : Int) (hm : -1 ≤ m) (hm2 : m ≤ 1048576) :
    run E noExt k 15 [.sl fl (s.map (Includes.enc fl)), .int .i64 m] [] = some (.int .i64 (left m (s.length)), []) := by
  obtain ⟨k, rfl⟩ : ∃ j, k = j + 1 := ⟨k - 1, by omega⟩
  rw [run_succ rfl rfl, body_eq (nt := 12) (fn := Go.Proofs.Try.f15) (by kernel_rfl) rfl rfl rfl rfl rfl rfl rfl rfl]
  have hs : s.length ≤ 140737488355328 := hf.1
  have hw : IntKind.i64.wrap (m - (s.length : Int)) = m - s.length := IntWalk.i64_in _ (by omega)

  simp -implicitDefEqProofs only [QS, QN, Go.Proofs.Try.f15, hw, ifEv_bool, gate_bool, gateP_bool, gateQ_bool, pick_bool, SN, evCutRow, Int.reduceToNat, id_eq, Int.reduceBEq, Int.reduceLE, Int.reduceLT, SS, one_ne2, num_ne2, TIS, MDS, wanted, numbered, plainC, plainS, evEq, eqK, evBox, evAlloc, evStore, evLoad, evFieldAddr, behind, takeVal, AV.cells, AV.isCell, ofCells, ofCell, Value.cells, Nat.reduceAdd, Nat.reduceEqDiff, Nat.reduceLT, Nat.reduceLeDiff, Nat.reduceMul, Nat.reduceSub, reduceIte]
  repeat' (split <;> (rename_i h; (try simp -implicitDefEqProofs only [Bool.not_eq_true', Bool.not_eq_false', decide_eq_true_eq, decide_eq_false_iff_not] at h); (try simp -implicitDefEqProofs only [QS, QN, *, hw, ifEv_bool, gate_bool, gateP_bool, gateQ_bool, pick_bool, SN, evCutRow, Int.reduceToNat, id_eq, Int.reduceBEq, Int.reduceLE, Int.reduceLT, SS, one_ne2, num_ne2, TIS, MDS, wanted, numbered, plainC, plainS, evEq, eqK, evBox, evAlloc, evStore, evLoad, evFieldAddr, behind, takeVal, AV.cells, AV.isCell, ofCells, ofCell, Value.cells, Nat.reduceAdd, Nat.reduceEqDiff, Nat.reduceLT, Nat.reduceLeDiff, Nat.reduceMul, Nat.reduceSub, reduceIte])))
  · rw [left_gt (by omega)]
  · rw [left_le (by omega)]
theorem r_laws_szCondS0 {fl : Bool} (k : Nat) (s : List Cond) (hk : 281474976710656 + 4 * wl Cond.w s + 1 ≤ k) (hf : FitL Cond.fits s) (c1 : ∀ c ∈ s, ∀ m : Int, -1 ≤ m → m ≤ 1048576 → run E noExt (k - 1) 66 [c.enc fl, .int .i64 m] [] = some (.int .i64 (left m c.w), [])) (m : Int) (hm : -1 ≤ m) (hm2 : m ≤ 1048576) :
    run E noExt k 84 [.sl fl (s.map (Cond.enc fl)), .int .i64 m] [] = some (.int .i64 (left m (wl Cond.w s)), []) := by
  obtain ⟨k, rfl⟩ : ∃ j, k = j + 1 := ⟨k - 1, by omega⟩
  rw [run_succ rfl rfl, body_eq (nt := 27) (fn := Go.Proofs.Try.f84) (by kernel_rfl) rfl rfl rfl rfl rfl rfl rfl rfl]
  simp -implicitDefEqProofs only [Nat.add_sub_cancel] at c1
  have hs := hf.1
  have hwl := wl_length Cond.w s
  have hw : IntKind.i64.wrap (m - (s.length : Int)) = m - s.length := IntWalk.i64_in _ (by omega)
  simp -implicitDefEqProofs only [QS, QN, Go.Proofs.Try.f84, hw, ifEv_bool, SN, evCutRow, Int.reduceToNat, id_eq, Int.reduceBEq, Int.reduceLE, Int.reduceLT, SS, one_ne2, num_ne2, TIS, MDS, wanted, numbered, plainC, plainS, evEq, eqK, evBox, evAlloc, evStore, evLoad, evFieldAddr, behind, takeVal, AV.cells, AV.isCell, ofCells, ofCell, Value.cells, Nat.reduceAdd, Nat.reduceEqDiff, Nat.reduceLT, Nat.reduceLeDiff, Nat.reduceMul, Nat.reduceSub, reduceIte]
  split
  · rename_i h
    have h' : m - (s.length : Int) < 0 := of_decide_eq_true h
    simp -implicitDefEqProofs only [QS, h, SS, one_ne2, num_ne2, TIS, MDS, wanted, numbered, plainC, plainS, evEq, eqK, evBox, evAlloc, evStore, evLoad, evFieldAddr, behind, takeVal, AV.cells, AV.isCell, ofCells, ofCell, Value.cells, Nat.reduceAdd, Nat.reduceEqDiff, Nat.reduceLT, Nat.reduceLeDiff, Nat.reduceMul, Nat.reduceSub, reduceIte]
    rw [left_gt (by omega)]
  · rename_i h
    simp -implicitDefEqProofs only [QS, h, SS, one_ne2, num_ne2, TIS, MDS, wanted, numbered, plainC, plainS, evEq, eqK, evBox, evAlloc, evStore, evLoad, evFieldAddr, behind, takeVal, AV.cells, AV.isCell, ofCells, ofCell, Value.cells, Nat.reduceAdd, Nat.reduceEqDiff, Nat.reduceLT, Nat.reduceLeDiff, Nat.reduceMul, Nat.reduceSub, reduceIte]
    have h' : ¬ (m - (s.length : Int) < 0) := of_decide_eq_false h
    rw [ev_loop]
    refine Eq.trans (loop_list (Q := fun g x => thenEnd E.P [] _ 0 (thenEv E _ _ _ _ _ (outOf 0 x)) = some (.int .i64 g, [])) s (szStep Cond.w) id
      (fun i m => { sl := [(0, .sl fl (s.map (Cond.enc fl))), (1, .int .i64 m), (5, .int .i64 (i : Nat))], bx := [], nx := 0, nt := 27 }) (fun i m => 0 ≤ m ∧ m ≤ 1048576) (m - s.length) ?_ ?_ (by omega) ⟨by omega, by omega⟩ ?_) ?_
    · intro m ⟨h1, h2⟩
      simp -implicitDefEqProofs only [QS, QN, QG, leaf_some, isNormal, ifEv_bool, gate_bool, gateP_bool, gateQ_bool, pick_bool, SN, evCutRow, Int.reduceToNat, id_eq, Int.reduceBEq, Int.reduceLE, Int.reduceLT, firstRegion, gc, keptBoxes, keptRows, dedup, nodupB, idx, renameB, AV.boxes, AV.boxess, AV.rows, AV.rowss, AV.mapO, AV.mapOs, SS, one_ne2, num_ne2, TIS, MDS, wanted, numbered, plainC, plainS, evEq, eqK, evBox, evAlloc, evStore, evLoad, evFieldAddr, behind, takeVal, AV.cells, AV.isCell, ofCells, ofCell, Value.cells, Nat.reduceAdd, Nat.reduceEqDiff, Nat.reduceLT, Nat.reduceLeDiff, Nat.reduceMul, Nat.reduceSub, reduceIte]
      repeat' (split <;> (rename_i h; (try simp -implicitDefEqProofs only [Bool.not_eq_true', Bool.not_eq_false', decide_eq_true_eq, decide_eq_false_iff_not] at h); (try simp -implicitDefEqProofs only [QS, QN, QG, *, leaf_some, isNormal, ifEv_bool, gate_bool, gateP_bool, gateQ_bool, pick_bool, SN, evCutRow, Int.reduceToNat, id_eq, Int.reduceBEq, Int.reduceLE, Int.reduceLT, firstRegion, gc, keptBoxes, keptRows, dedup, nodupB, idx, renameB, AV.boxes, AV.boxess, AV.rows, AV.rowss, AV.mapO, AV.mapOs, SS, one_ne2, num_ne2, TIS, MDS, wanted, numbered, plainC, plainS, evEq, eqK, evBox, evAlloc, evStore, evLoad, evFieldAddr, behind, takeVal, AV.cells, AV.isCell, ofCells, ofCell, Value.cells, Nat.reduceAdd, Nat.reduceEqDiff, Nat.reduceLT, Nat.reduceLeDiff, Nat.reduceMul, Nat.reduceSub, reduceIte])))
    · intro pre c r m hs' ⟨h1, h2⟩
      have hx := (at_row hs' hs).1; have hc := (at_row hs' hs).2.1; have hlt := (at_row hs' hs).2.2.1; have hw1 := (at_row hs' hs).2.2.2.1; have hl := (at_row hs' hs).2.2.2.2
      have c2 := c1 c hc m (by omega) h2
      simp -implicitDefEqProofs only [enc_Cond] at c2
      clear hs'
      simp -implicitDefEqProofs only [QS, QN, QG, enc_Cond, hx, hlt, hw1, c2, szStep, keep_84_5, leaf_some, isNormal, ifEv_bool, gate_bool, gateP_bool, gateQ_bool, pick_bool, SN, evCutRow, Int.reduceToNat, id_eq, Int.reduceBEq, Int.reduceLE, Int.reduceLT, firstRegion, gc, keptBoxes, keptRows, dedup, nodupB, idx, renameB, AV.boxes, AV.boxess, AV.rows, AV.rowss, AV.mapO, AV.mapOs, SS, one_ne2, num_ne2, TIS, MDS, wanted, numbered, plainC, plainS, evEq, eqK, evBox, evAlloc, evStore, evLoad, evFieldAddr, behind, takeVal, AV.cells, AV.isCell, ofCells, ofCell, Value.cells, Nat.reduceAdd, Nat.reduceEqDiff, Nat.reduceLT, Nat.reduceLeDiff, Nat.reduceMul, Nat.reduceSub, reduceIte]
      repeat' (split <;> (rename_i h; (try simp -implicitDefEqProofs only [Bool.not_eq_true', Bool.not_eq_false', decide_eq_true_eq, decide_eq_false_iff_not] at h); (try simp -implicitDefEqProofs only [QS, QN, QG, *, enc_Cond, hx, hlt, hw1, c2, szStep, keep_84_5, leaf_some, isNormal, ifEv_bool, gate_bool, gateP_bool, gateQ_bool, pick_bool, SN, evCutRow, Int.reduceToNat, id_eq, Int.reduceBEq, Int.reduceLE, Int.reduceLT, firstRegion, gc, keptBoxes, keptRows, dedup, nodupB, idx, renameB, AV.boxes, AV.boxess, AV.rows, AV.rowss, AV.mapO, AV.mapOs, SS, one_ne2, num_ne2, TIS, MDS, wanted, numbered, plainC, plainS, evEq, eqK, evBox, evAlloc, evStore, evLoad, evFieldAddr, behind, takeVal, AV.cells, AV.isCell, ofCells, ofCell, Value.cells, Nat.reduceAdd, Nat.reduceEqDiff, Nat.reduceLT, Nat.reduceLeDiff, Nat.reduceMul, Nat.reduceSub, reduceIte])))
      exact ⟨by omega, left_hi h2 (by omega)⟩
    · simp -implicitDefEqProofs only [firstRegion]; rw [keep_84_5]; simp -implicitDefEqProofs only [QS, QN, QG, SN, evCutRow, Int.reduceToNat, id_eq, Int.reduceBEq, Int.reduceLE, Int.reduceLT, firstRegion, gc, keptBoxes, keptRows, dedup, nodupB, idx, renameB, AV.boxes, AV.boxess, AV.rows, AV.rowss, AV.mapO, AV.mapOs, SS, one_ne2, num_ne2, TIS, MDS, wanted, numbered, plainC, plainS, evEq, eqK, evBox, evAlloc, evStore, evLoad, evFieldAddr, behind, takeVal, AV.cells, AV.isCell, ofCells, ofCell, Value.cells, Nat.reduceAdd, Nat.reduceEqDiff, Nat.reduceLT, Nat.reduceLeDiff, Nat.reduceMul, Nat.reduceSub, reduceIte]; first | done | rfl
    · rw [szLoop _ _ _ _ (by omega)]
      by_cases h2 : ((wl Cond.w s : Nat) : Int) ≤ m
      · rw [left_le h2, left_le (by omega)]; congr 3; omega
      · rw [left_gt (by omega), left_gt (by omega)]
theorem r_laws_szCond {fl : Bool} (k : Nat) (x : Cond) (hk : 281474976710656 + 4 * x.w + 2 ≤ k) (hf : x.fits) (m : Int) (hm : -1 ≤ m) (hm2 : m ≤ 1048576) :
    run E noExt k 66 [x.enc fl, .int .i64 m] [] = some (.int .i64 (left m x.w), []) := by
  induction x using Cond.induct generalizing k m with
  | h x ih =>
    rw [Cond.fits_eq] at hf
    rw [x.w_eq] at hk ⊢
    have c2 := r_laws_szCondS0 (fl := fl) (k - 1) x.args (by omega) hf (fun c hc m h1 h2 => ih c hc _ (by have := wl_mem (w := Cond.w) hc; omega) (hf.2 c hc) m h1 h2) m hm hm2
    have hlo := left_lo (m := wl Cond.w x.args) hm
    obtain ⟨k, rfl⟩ : ∃ j, k = j + 1 := ⟨k - 1, by omega⟩
    rw [run_succ rfl rfl, body_eq (nt := 12) (fn := Go.Proofs.Try.f66) (by kernel_rfl) rfl rfl rfl rfl rfl rfl rfl rfl]
    simp -implicitDefEqProofs only [Nat.add_sub_cancel] at c2
    rw [enc_Cond]
    simp -implicitDefEqProofs only [QS, QN, Go.Proofs.Try.f66, c2, ifEv_bool, SN, evCutRow, Int.reduceToNat, id_eq, Int.reduceBEq, Int.reduceLE, Int.reduceLT, SS, one_ne2, num_ne2, TIS, MDS, wanted, numbered, plainC, plainS, evEq, eqK, evBox, evAlloc, evStore, evLoad, evFieldAddr, behind, takeVal, AV.cells, AV.isCell, ofCells, ofCell, Value.cells, Nat.reduceAdd, Nat.reduceEqDiff, Nat.reduceLT, Nat.reduceLeDiff, Nat.reduceMul, Nat.reduceSub, reduceIte]
    split
    · rename_i h
      have h' := of_decide_eq_true h
      simp -implicitDefEqProofs only [QS, h, SS, one_ne2, num_ne2, TIS, MDS, wanted, numbered, plainC, plainS, evEq, eqK, evBox, evAlloc, evStore, evLoad, evFieldAddr, behind, takeVal, AV.cells, AV.isCell, ofCells, ofCell, Value.cells, Nat.reduceAdd, Nat.reduceEqDiff, Nat.reduceLT, Nat.reduceLeDiff, Nat.reduceMul, Nat.reduceSub, reduceIte]
      have : left m (wl Cond.w x.args) = -1 := by omega
      rw [this]
    · rename_i h
      simp -implicitDefEqProofs only [QS, h, SS, one_ne2, num_ne2, TIS, MDS, wanted, numbered, plainC, plainS, evEq, eqK, evBox, evAlloc, evStore, evLoad, evFieldAddr, behind, takeVal, AV.cells, AV.isCell, ofCells, ofCell, Value.cells, Nat.reduceAdd, Nat.reduceEqDiff, Nat.reduceLT, Nat.reduceLeDiff, Nat.reduceMul, Nat.reduceSub, reduceIte]
theorem r_laws_szRule {fl : Bool} (k : Nat) (x : Rule) (hk : 281474976710656 + 4 * x.w + 3 ≤ k) (hf : x.fits) (m : Int) (hm : -1 ≤ m) (hm2 : m ≤ 1048576) :
    run E noExt k 40 [x.enc fl, .int .i64 m] [] = some (.int .i64 (left m x.w), []) := by
  obtain ⟨k, rfl⟩ : ∃ j, k = j + 1 := ⟨k - 1, by omega⟩
  rw [run_succ rfl rfl, body_eq (nt := 12) (fn := Go.Proofs.Try.f40) (by kernel_rfl) rfl rfl rfl rfl rfl rfl rfl rfl]
  unfold Rule.w at hk ⊢
  unfold Rule.fits at hf
  have c0 := r_laws_szCond (fl := fl) k x.cond (by omega) (hf) (m) (hm) (hm2)
  simp -implicitDefEqProofs only [enc_Cond, enc_Rule] at c0
  simp -implicitDefEqProofs only [QS, QN, enc_Rule, Go.Proofs.Try.f40, c0, ifEv_bool, SN, evCutRow, Int.reduceToNat, id_eq, Int.reduceBEq, Int.reduceLE, Int.reduceLT, SS, one_ne2, num_ne2, TIS, MDS, wanted, numbered, plainC, plainS, evEq, eqK, evBox, evAlloc, evStore, evLoad, evFieldAddr, behind, takeVal, AV.cells, AV.isCell, ofCells, ofCell, Value.cells, Nat.reduceAdd, Nat.reduceEqDiff, Nat.reduceLT, Nat.reduceLeDiff, Nat.reduceMul, Nat.reduceSub, reduceIte]
  split
  · rename_i h
    have h' := of_decide_eq_true h
    simp -implicitDefEqProofs only [QS, h, SS, one_ne2, num_ne2, TIS, MDS, wanted, numbered, plainC, plainS, evEq, eqK, evBox, evAlloc, evStore, evLoad, evFieldAddr, behind, takeVal, AV.cells, AV.isCell, ofCells, ofCell, Value.cells, Nat.reduceAdd, Nat.reduceEqDiff, Nat.reduceLT, Nat.reduceLeDiff, Nat.reduceMul, Nat.reduceSub, reduceIte]
    have hlo := left_lo (m := 0) hm
    congr 3
    unfold left at h' ⊢
    split at h' <;> split <;> omega
  · rename_i h
    simp -implicitDefEqProofs only [QS, QN, h, c0, ifEv_bool, SN, evCutRow, Int.reduceToNat, id_eq, Int.reduceBEq, Int.reduceLE, Int.reduceLT, SS, one_ne2, num_ne2, TIS, MDS, wanted, numbered, plainC, plainS, evEq, eqK, evBox, evAlloc, evStore, evLoad, evFieldAddr, behind, takeVal, AV.cells, AV.isCell, ofCells, ofCell, Value.cells, Nat.reduceAdd, Nat.reduceEqDiff, Nat.reduceLT, Nat.reduceLeDiff, Nat.reduceMul, Nat.reduceSub, reduceIte]
    try simp -implicitDefEqProofs only [left_left hm, Nat.add_assoc]
theorem r_laws_szRuleS {fl : Bool} (k : Nat) (s : List Rule) (hk : 281474976710656 + 4 * wl Rule.w s + 4 ≤ k) (hf : FitL Rule.fits s) (m : Int) (hm : -1 ≤ m) (hm2 : m ≤ 1048576) :
    run E noExt k 16 [.sl fl (s.map (Rule.enc fl)), .int .i64 m] [] = some (.int .i64 (left m (wl Rule.w s)), []) := by
  obtain ⟨k, rfl⟩ : ∃ j, k = j + 1 := ⟨k - 1, by omega⟩
  rw [run_succ rfl rfl, body_eq (nt := 27) (fn := Go.Proofs.Try.f16) (by kernel_rfl) rfl rfl rfl rfl rfl rfl rfl rfl]
  have hs : s.length ≤ 140737488355328 := hf.1
  have hwl := wl_length Rule.w s
  have c1 : ∀ c ∈ s, ∀ m : Int, -1 ≤ m → m ≤ 1048576 → run E noExt k 40 [c.enc fl, .int .i64 m] [] = some (.int .i64 (left m c.w), []) := fun c hc => r_laws_szRule k c (by have := wl_mem (w := Rule.w) hc; omega) (hf.2 c hc)
  have hw : IntKind.i64.wrap (m - (s.length : Int)) = m - s.length := IntWalk.i64_in _ (by omega)
  simp -implicitDefEqProofs only [QS, QN, Go.Proofs.Try.f16, hw, ifEv_bool, SN, evCutRow, Int.reduceToNat, id_eq, Int.reduceBEq, Int.reduceLE, Int.reduceLT, SS, one_ne2, num_ne2, TIS, MDS, wanted, numbered, plainC, plainS, evEq, eqK, evBox, evAlloc, evStore, evLoad, evFieldAddr, behind, takeVal, AV.cells, AV.isCell, ofCells, ofCell, Value.cells, Nat.reduceAdd, Nat.reduceEqDiff, Nat.reduceLT, Nat.reduceLeDiff, Nat.reduceMul, Nat.reduceSub, reduceIte]
  split
  · rename_i h
    have h' : m - (s.length : Int) < 0 := of_decide_eq_true h
    simp -implicitDefEqProofs only [QS, h, SS, one_ne2, num_ne2, TIS, MDS, wanted, numbered, plainC, plainS, evEq, eqK, evBox, evAlloc, evStore, evLoad, evFieldAddr, behind, takeVal, AV.cells, AV.isCell, ofCells, ofCell, Value.cells, Nat.reduceAdd, Nat.reduceEqDiff, Nat.reduceLT, Nat.reduceLeDiff, Nat.reduceMul, Nat.reduceSub, reduceIte]
    rw [left_gt (by omega)]
  · rename_i h
    simp -implicitDefEqProofs only [QS, h, SS, one_ne2, num_ne2, TIS, MDS, wanted, numbered, plainC, plainS, evEq, eqK, evBox, evAlloc, evStore, evLoad, evFieldAddr, behind, takeVal, AV.cells, AV.isCell, ofCells, ofCell, Value.cells, Nat.reduceAdd, Nat.reduceEqDiff, Nat.reduceLT, Nat.reduceLeDiff, Nat.reduceMul, Nat.reduceSub, reduceIte]
    have h' : ¬ (m - (s.length : Int) < 0) := of_decide_eq_false h
    rw [ev_loop]
    refine Eq.trans (loop_list (Q := fun g x => thenEnd E.P [] _ 0 (thenEv E _ _ _ _ _ (outOf 0 x)) = some (.int .i64 g, [])) s (szStep Rule.w) id
      (fun i m => { sl := [(0, .sl fl (s.map (Rule.enc fl))), (1, .int .i64 m), (5, .int .i64 (i : Nat))], bx := [], nx := 0, nt := 27 }) (fun i m => 0 ≤ m ∧ m ≤ 1048576) (m - s.length) ?_ ?_ (by omega) ⟨by omega, by omega⟩ ?_) ?_
    · intro m ⟨h1, h2⟩
      simp -implicitDefEqProofs only [QS, QN, QG, leaf_some, isNormal, ifEv_bool, gate_bool, gateP_bool, gateQ_bool, pick_bool, SN, evCutRow, Int.reduceToNat, id_eq, Int.reduceBEq, Int.reduceLE, Int.reduceLT, firstRegion, gc, keptBoxes, keptRows, dedup, nodupB, idx, renameB, AV.boxes, AV.boxess, AV.rows, AV.rowss, AV.mapO, AV.mapOs, SS, one_ne2, num_ne2, TIS, MDS, wanted, numbered, plainC, plainS, evEq, eqK, evBox, evAlloc, evStore, evLoad, evFieldAddr, behind, takeVal, AV.cells, AV.isCell, ofCells, ofCell, Value.cells, Nat.reduceAdd, Nat.reduceEqDiff, Nat.reduceLT, Nat.reduceLeDiff, Nat.reduceMul, Nat.reduceSub, reduceIte]
      repeat' (split <;> (rename_i h; (try simp -implicitDefEqProofs only [Bool.not_eq_true', Bool.not_eq_false', decide_eq_true_eq, decide_eq_false_iff_not] at h); (try simp -implicitDefEqProofs only [QS, QN, QG, *, leaf_some, isNormal, ifEv_bool, gate_bool, gateP_bool, gateQ_bool, pick_bool, SN, evCutRow, Int.reduceToNat, id_eq, Int.reduceBEq, Int.reduceLE, Int.reduceLT, firstRegion, gc, keptBoxes, keptRows, dedup, nodupB, idx, renameB, AV.boxes, AV.boxess, AV.rows, AV.rowss, AV.mapO, AV.mapOs, SS, one_ne2, num_ne2, TIS, MDS, wanted, numbered, plainC, plainS, evEq, eqK, evBox, evAlloc, evStore, evLoad, evFieldAddr, behind, takeVal, AV.cells, AV.isCell, ofCells, ofCell, Value.cells, Nat.reduceAdd, Nat.reduceEqDiff, Nat.reduceLT, Nat.reduceLeDiff, Nat.reduceMul, Nat.reduceSub, reduceIte])))
    · intro pre c r m hs' ⟨h1, h2⟩
      have hx := (at_row hs' hs).1; have hc := (at_row hs' hs).2.1; have hlt := (at_row hs' hs).2.2.1; have hw1 := (at_row hs' hs).2.2.2.1; have hl := (at_row hs' hs).2.2.2.2
      have c2 := c1 c hc m (by omega) h2
      simp -implicitDefEqProofs only [enc_Cond, enc_Rule] at c2
      clear hs'
      simp -implicitDefEqProofs only [QS, QN, QG, enc_Cond, enc_Rule, hx, hlt, hw1, c2, szStep, keep_16_5, leaf_some, isNormal, ifEv_bool, gate_bool, gateP_bool, gateQ_bool, pick_bool, SN, evCutRow, Int.reduceToNat, id_eq, Int.reduceBEq, Int.reduceLE, Int.reduceLT, firstRegion, gc, keptBoxes, keptRows, dedup, nodupB, idx, renameB, AV.boxes, AV.boxess, AV.rows, AV.rowss, AV.mapO, AV.mapOs, SS, one_ne2, num_ne2, TIS, MDS, wanted, numbered, plainC, plainS, evEq, eqK, evBox, evAlloc, evStore, evLoad, evFieldAddr, behind, takeVal, AV.cells, AV.isCell, ofCells, ofCell, Value.cells, Nat.reduceAdd, Nat.reduceEqDiff, Nat.reduceLT, Nat.reduceLeDiff, Nat.reduceMul, Nat.reduceSub, reduceIte]
      repeat' (split <;> (rename_i h; (try simp -implicitDefEqProofs only [Bool.not_eq_true', Bool.not_eq_false', decide_eq_true_eq, decide_eq_false_iff_not] at h); (try simp -implicitDefEqProofs only [QS, QN, QG, *, enc_Cond, enc_Rule, hx, hlt, hw1, c2, szStep, keep_16_5, leaf_some, isNormal, ifEv_bool, gate_bool, gateP_bool, gateQ_bool, pick_bool, SN, evCutRow, Int.reduceToNat, id_eq, Int.reduceBEq, Int.reduceLE, Int.reduceLT, firstRegion, gc, keptBoxes, keptRows, dedup, nodupB, idx, renameB, AV.boxes, AV.boxess, AV.rows, AV.rowss, AV.mapO, AV.mapOs, SS, one_ne2, num_ne2, TIS, MDS, wanted, numbered, plainC, plainS, evEq, eqK, evBox, evAlloc, evStore, evLoad, evFieldAddr, behind, takeVal, AV.cells, AV.isCell, ofCells, ofCell, Value.cells, Nat.reduceAdd, Nat.reduceEqDiff, Nat.reduceLT, Nat.reduceLeDiff, Nat.reduceMul, Nat.reduceSub, reduceIte])))
      exact ⟨by omega, left_hi h2 (by omega)⟩
    · simp -implicitDefEqProofs only [firstRegion]; rw [keep_16_5]; simp -implicitDefEqProofs only [QS, QN, QG, SN, evCutRow, Int.reduceToNat, id_eq, Int.reduceBEq, Int.reduceLE, Int.reduceLT, firstRegion, gc, keptBoxes, keptRows, dedup, nodupB, idx, renameB, AV.boxes, AV.boxess, AV.rows, AV.rowss, AV.mapO, AV.mapOs, SS, one_ne2, num_ne2, TIS, MDS, wanted, numbered, plainC, plainS, evEq, eqK, evBox, evAlloc, evStore, evLoad, evFieldAddr, behind, takeVal, AV.cells, AV.isCell, ofCells, ofCell, Value.cells, Nat.reduceAdd, Nat.reduceEqDiff, Nat.reduceLT, Nat.reduceLeDiff, Nat.reduceMul, Nat.reduceSub, reduceIte]; first | done | rfl
    · rw [szLoop _ _ _ _ (by omega)]
      by_cases h2 : ((wl Rule.w s : Nat) : Int) ≤ m
      · rw [left_le h2, left_le (by omega)]; congr 3; omega
      · rw [left_gt (by omega), left_gt (by omega)]
theorem r_laws_szPolicy {fl : Bool} (k : Nat) (x : Policy) (hk : 281474976710656 + 4 * x.w + 5 ≤ k) (hf : x.fits) (m : Int) (hm : -1 ≤ m) (hm2 : m ≤ 1048576) :
    run E noExt k 65 [x.enc fl, .int .i64 m] [] = some (.int .i64 (left m x.w), []) := by
  obtain ⟨k, rfl⟩ : ∃ j, k = j + 1 := ⟨k - 1, by omega⟩
  rw [run_succ rfl rfl, body_eq (nt := 12) (fn := Go.Proofs.Try.f65) (by kernel_rfl) rfl rfl rfl rfl rfl rfl rfl rfl]
  unfold Policy.w at hk ⊢
  unfold Policy.fits at hf
  have c0 := r_laws_szRuleS (fl := fl) k x.rules (by omega) (hf) (m) (hm) (hm2)
  simp -implicitDefEqProofs only [QS, QN, enc_Policy, Go.Proofs.Try.f65, c0, ifEv_bool, SN, evCutRow, Int.reduceToNat, id_eq, Int.reduceBEq, Int.reduceLE, Int.reduceLT, SS, one_ne2, num_ne2, TIS, MDS, wanted, numbered, plainC, plainS, evEq, eqK, evBox, evAlloc, evStore, evLoad, evFieldAddr, behind, takeVal, AV.cells, AV.isCell, ofCells, ofCell, Value.cells, Nat.reduceAdd, Nat.reduceEqDiff, Nat.reduceLT, Nat.reduceLeDiff, Nat.reduceMul, Nat.reduceSub, reduceIte]
  split
  · rename_i h
    have h' := of_decide_eq_true h
    simp -implicitDefEqProofs only [QS, h, SS, one_ne2, num_ne2, TIS, MDS, wanted, numbered, plainC, plainS, evEq, eqK, evBox, evAlloc, evStore, evLoad, evFieldAddr, behind, takeVal, AV.cells, AV.isCell, ofCells, ofCell, Value.cells, Nat.reduceAdd, Nat.reduceEqDiff, Nat.reduceLT, Nat.reduceLeDiff, Nat.reduceMul, Nat.reduceSub, reduceIte]
    have hlo := left_lo (m := 0) hm
    congr 3
    unfold left at h' ⊢
    split at h' <;> split <;> omega
  · rename_i h
    simp -implicitDefEqProofs only [QS, QN, h, c0, ifEv_bool, SN, evCutRow, Int.reduceToNat, id_eq, Int.reduceBEq, Int.reduceLE, Int.reduceLT, SS, one_ne2, num_ne2, TIS, MDS, wanted, numbered, plainC, plainS, evEq, eqK, evBox, evAlloc, evStore, evLoad, evFieldAddr, behind, takeVal, AV.cells, AV.isCell, ofCells, ofCell, Value.cells, Nat.reduceAdd, Nat.reduceEqDiff, Nat.reduceLT, Nat.reduceLeDiff, Nat.reduceMul, Nat.reduceSub, reduceIte]
    try simp -implicitDefEqProofs only [left_left hm, Nat.add_assoc]
theorem r_laws_szEpoch {fl : Bool} (k : Nat) (x : Epoch) (hk : 281474976710656 + 4 * x.w + 7 ≤ k) (hf : x.fits) (m : Int) (hm : -1 ≤ m) (hm2 : m ≤ 1048576) :
    run E noExt k 39 [x.enc fl, .int .i64 m] [] = some (.int .i64 (left m x.w), []) := by
  obtain ⟨k, rfl⟩ : ∃ j, k = j + 1 := ⟨k - 1, by omega⟩
  rw [run_succ rfl rfl, body_eq (nt := 18) (fn := Go.Proofs.Try.f39) (by kernel_rfl) rfl rfl rfl rfl rfl rfl rfl rfl]
  unfold Epoch.w at hk ⊢
  unfold Epoch.fits at hf
  have c0 := r_laws_szIncludesS (fl := fl) k x.pairs (by omega) (hf.1) (m) (hm) (hm2)
  have c1 := r_laws_szPolicy (fl := fl) k x.policy (by omega) (hf.2) (left m (x.pairs.length)) (left_lo (hm)) (left_hi (hm2) (by decide))
  simp -implicitDefEqProofs only [enc_Epoch, enc_Policy] at c1
  simp -implicitDefEqProofs only [QS, QN, enc_Epoch, Go.Proofs.Try.f39, c0, c1, ifEv_bool, SN, evCutRow, Int.reduceToNat, id_eq, Int.reduceBEq, Int.reduceLE, Int.reduceLT, SS, one_ne2, num_ne2, TIS, MDS, wanted, numbered, plainC, plainS, evEq, eqK, evBox, evAlloc, evStore, evLoad, evFieldAddr, behind, takeVal, AV.cells, AV.isCell, ofCells, ofCell, Value.cells, Nat.reduceAdd, Nat.reduceEqDiff, Nat.reduceLT, Nat.reduceLeDiff, Nat.reduceMul, Nat.reduceSub, reduceIte]
  split
  · rename_i h
    have h' := of_decide_eq_true h
    simp -implicitDefEqProofs only [QS, h, SS, one_ne2, num_ne2, TIS, MDS, wanted, numbered, plainC, plainS, evEq, eqK, evBox, evAlloc, evStore, evLoad, evFieldAddr, behind, takeVal, AV.cells, AV.isCell, ofCells, ofCell, Value.cells, Nat.reduceAdd, Nat.reduceEqDiff, Nat.reduceLT, Nat.reduceLeDiff, Nat.reduceMul, Nat.reduceSub, reduceIte]
    have hlo := left_lo (m := 0) hm
    congr 3
    unfold left at h' ⊢
    split at h' <;> split <;> omega
  · rename_i h
    simp -implicitDefEqProofs only [QS, QN, h, c0, c1, ifEv_bool, SN, evCutRow, Int.reduceToNat, id_eq, Int.reduceBEq, Int.reduceLE, Int.reduceLT, SS, one_ne2, num_ne2, TIS, MDS, wanted, numbered, plainC, plainS, evEq, eqK, evBox, evAlloc, evStore, evLoad, evFieldAddr, behind, takeVal, AV.cells, AV.isCell, ofCells, ofCell, Value.cells, Nat.reduceAdd, Nat.reduceEqDiff, Nat.reduceLT, Nat.reduceLeDiff, Nat.reduceMul, Nat.reduceSub, reduceIte]
    split
    · rename_i h
      have h' := of_decide_eq_true h
      simp -implicitDefEqProofs only [QS, h, SS, one_ne2, num_ne2, TIS, MDS, wanted, numbered, plainC, plainS, evEq, eqK, evBox, evAlloc, evStore, evLoad, evFieldAddr, behind, takeVal, AV.cells, AV.isCell, ofCells, ofCell, Value.cells, Nat.reduceAdd, Nat.reduceEqDiff, Nat.reduceLT, Nat.reduceLeDiff, Nat.reduceMul, Nat.reduceSub, reduceIte]
      have hlo := left_lo (m := 0) hm
      simp -implicitDefEqProofs only [left_left hm] at h'
      congr 3
      unfold left at h' ⊢
      split at h' <;> split <;> omega
    · rename_i h
      simp -implicitDefEqProofs only [QS, QN, h, c0, c1, ifEv_bool, SN, evCutRow, Int.reduceToNat, id_eq, Int.reduceBEq, Int.reduceLE, Int.reduceLT, SS, one_ne2, num_ne2, TIS, MDS, wanted, numbered, plainC, plainS, evEq, eqK, evBox, evAlloc, evStore, evLoad, evFieldAddr, behind, takeVal, AV.cells, AV.isCell, ofCells, ofCell, Value.cells, Nat.reduceAdd, Nat.reduceEqDiff, Nat.reduceLT, Nat.reduceLeDiff, Nat.reduceMul, Nat.reduceSub, reduceIte]
      try simp -implicitDefEqProofs only [left_left hm, Nat.add_assoc]
theorem r_laws_szEpochS {fl : Bool} (k : Nat) (s : List Epoch) (hk : 281474976710656 + 4 * wl Epoch.w s + 8 ≤ k) (hf : FitL Epoch.fits s) (m : Int) (hm : -1 ≤ m) (hm2 : m ≤ 1048576) :
    run E noExt k 14 [.sl fl (s.map (Epoch.enc fl)), .int .i64 m] [] = some (.int .i64 (left m (wl Epoch.w s)), []) := by
  obtain ⟨k, rfl⟩ : ∃ j, k = j + 1 := ⟨k - 1, by omega⟩
  rw [run_succ rfl rfl, body_eq (nt := 27) (fn := Go.Proofs.Try.f14) (by kernel_rfl) rfl rfl rfl rfl rfl rfl rfl rfl]
  have hs : s.length ≤ 140737488355328 := hf.1
  have hwl := wl_length Epoch.w s
  have c1 : ∀ c ∈ s, ∀ m : Int, -1 ≤ m → m ≤ 1048576 → run E noExt k 39 [c.enc fl, .int .i64 m] [] = some (.int .i64 (left m c.w), []) := fun c hc => r_laws_szEpoch k c (by have := wl_mem (w := Epoch.w) hc; omega) (hf.2 c hc)
  have hw : IntKind.i64.wrap (m - (s.length : Int)) = m - s.length := IntWalk.i64_in _ (by omega)
  simp -implicitDefEqProofs only [QS, QN, Go.Proofs.Try.f14, hw, ifEv_bool, SN, evCutRow, Int.reduceToNat, id_eq, Int.reduceBEq, Int.reduceLE, Int.reduceLT, SS, one_ne2, num_ne2, TIS, MDS, wanted, numbered, plainC, plainS, evEq, eqK, evBox, evAlloc, evStore, evLoad, evFieldAddr, behind, takeVal, AV.cells, AV.isCell, ofCells, ofCell, Value.cells, Nat.reduceAdd, Nat.reduceEqDiff, Nat.reduceLT, Nat.reduceLeDiff, Nat.reduceMul, Nat.reduceSub, reduceIte]
  split
  · rename_i h
    have h' : m - (s.length : Int) < 0 := of_decide_eq_true h
    simp -implicitDefEqProofs only [QS, h, SS, one_ne2, num_ne2, TIS, MDS, wanted, numbered, plainC, plainS, evEq, eqK, evBox, evAlloc, evStore, evLoad, evFieldAddr, behind, takeVal, AV.cells, AV.isCell, ofCells, ofCell, Value.cells, Nat.reduceAdd, Nat.reduceEqDiff, Nat.reduceLT, Nat.reduceLeDiff, Nat.reduceMul, Nat.reduceSub, reduceIte]
    rw [left_gt (by omega)]
  · rename_i h
    simp -implicitDefEqProofs only [QS, h, SS, one_ne2, num_ne2, TIS, MDS, wanted, numbered, plainC, plainS, evEq, eqK, evBox, evAlloc, evStore, evLoad, evFieldAddr, behind, takeVal, AV.cells, AV.isCell, ofCells, ofCell, Value.cells, Nat.reduceAdd, Nat.reduceEqDiff, Nat.reduceLT, Nat.reduceLeDiff, Nat.reduceMul, Nat.reduceSub, reduceIte]
    have h' : ¬ (m - (s.length : Int) < 0) := of_decide_eq_false h
    rw [ev_loop]
    refine Eq.trans (loop_list (Q := fun g x => thenEnd E.P [] _ 0 (thenEv E _ _ _ _ _ (outOf 0 x)) = some (.int .i64 g, [])) s (szStep Epoch.w) id
      (fun i m => { sl := [(0, .sl fl (s.map (Epoch.enc fl))), (1, .int .i64 m), (5, .int .i64 (i : Nat))], bx := [], nx := 0, nt := 27 }) (fun i m => 0 ≤ m ∧ m ≤ 1048576) (m - s.length) ?_ ?_ (by omega) ⟨by omega, by omega⟩ ?_) ?_
    · intro m ⟨h1, h2⟩
      simp -implicitDefEqProofs only [QS, QN, QG, leaf_some, isNormal, ifEv_bool, gate_bool, gateP_bool, gateQ_bool, pick_bool, SN, evCutRow, Int.reduceToNat, id_eq, Int.reduceBEq, Int.reduceLE, Int.reduceLT, firstRegion, gc, keptBoxes, keptRows, dedup, nodupB, idx, renameB, AV.boxes, AV.boxess, AV.rows, AV.rowss, AV.mapO, AV.mapOs, SS, one_ne2, num_ne2, TIS, MDS, wanted, numbered, plainC, plainS, evEq, eqK, evBox, evAlloc, evStore, evLoad, evFieldAddr, behind, takeVal, AV.cells, AV.isCell, ofCells, ofCell, Value.cells, Nat.reduceAdd, Nat.reduceEqDiff, Nat.reduceLT, Nat.reduceLeDiff, Nat.reduceMul, Nat.reduceSub, reduceIte]
      repeat' (split <;> (rename_i h; (try simp -implicitDefEqProofs only [Bool.not_eq_true', Bool.not_eq_false', decide_eq_true_eq, decide_eq_false_iff_not] at h); (try simp -implicitDefEqProofs only [QS, QN, QG, *, leaf_some, isNormal, ifEv_bool, gate_bool, gateP_bool, gateQ_bool, pick_bool, SN, evCutRow, Int.reduceToNat, id_eq, Int.reduceBEq, Int.reduceLE, Int.reduceLT, firstRegion, gc, keptBoxes, keptRows, dedup, nodupB, idx, renameB, AV.boxes, AV.boxess, AV.rows, AV.rowss, AV.mapO, AV.mapOs, SS, one_ne2, num_ne2, TIS, MDS, wanted, numbered, plainC, plainS, evEq, eqK, evBox, evAlloc, evStore, evLoad, evFieldAddr, behind, takeVal, AV.cells, AV.isCell, ofCells, ofCell, Value.cells, Nat.reduceAdd, Nat.reduceEqDiff, Nat.reduceLT, Nat.reduceLeDiff, Nat.reduceMul, Nat.reduceSub, reduceIte])))
    · intro pre c r m hs' ⟨h1, h2⟩
      have hx := (at_row hs' hs).1; have hc := (at_row hs' hs).2.1; have hlt := (at_row hs' hs).2.2.1; have hw1 := (at_row hs' hs).2.2.2.1; have hl := (at_row hs' hs).2.2.2.2
      have c2 := c1 c hc m (by omega) h2
      simp -implicitDefEqProofs only [enc_Epoch, enc_Policy] at c2
      clear hs'
      simp -implicitDefEqProofs only [QS, QN, QG, enc_Epoch, enc_Policy, hx, hlt, hw1, c2, szStep, keep_14_5, leaf_some, isNormal, ifEv_bool, gate_bool, gateP_bool, gateQ_bool, pick_bool, SN, evCutRow, Int.reduceToNat, id_eq, Int.reduceBEq, Int.reduceLE, Int.reduceLT, firstRegion, gc, keptBoxes, keptRows, dedup, nodupB, idx, renameB, AV.boxes, AV.boxess, AV.rows, AV.rowss, AV.mapO, AV.mapOs, SS, one_ne2, num_ne2, TIS, MDS, wanted, numbered, plainC, plainS, evEq, eqK, evBox, evAlloc, evStore, evLoad, evFieldAddr, behind, takeVal, AV.cells, AV.isCell, ofCells, ofCell, Value.cells, Nat.reduceAdd, Nat.reduceEqDiff, Nat.reduceLT, Nat.reduceLeDiff, Nat.reduceMul, Nat.reduceSub, reduceIte]
      repeat' (split <;> (rename_i h; (try simp -implicitDefEqProofs only [Bool.not_eq_true', Bool.not_eq_false', decide_eq_true_eq, decide_eq_false_iff_not] at h); (try simp -implicitDefEqProofs only [QS, QN, QG, *, enc_Epoch, enc_Policy, hx, hlt, hw1, c2, szStep, keep_14_5, leaf_some, isNormal, ifEv_bool, gate_bool, gateP_bool, gateQ_bool, pick_bool, SN, evCutRow, Int.reduceToNat, id_eq, Int.reduceBEq, Int.reduceLE, Int.reduceLT, firstRegion, gc, keptBoxes, keptRows, dedup, nodupB, idx, renameB, AV.boxes, AV.boxess, AV.rows, AV.rowss, AV.mapO, AV.mapOs, SS, one_ne2, num_ne2, TIS, MDS, wanted, numbered, plainC, plainS, evEq, eqK, evBox, evAlloc, evStore, evLoad, evFieldAddr, behind, takeVal, AV.cells, AV.isCell, ofCells, ofCell, Value.cells, Nat.reduceAdd, Nat.reduceEqDiff, Nat.reduceLT, Nat.reduceLeDiff, Nat.reduceMul, Nat.reduceSub, reduceIte])))
      exact ⟨by omega, left_hi h2 (by omega)⟩
    · simp -implicitDefEqProofs only [firstRegion]; rw [keep_14_5]; simp -implicitDefEqProofs only [QS, QN, QG, SN, evCutRow, Int.reduceToNat, id_eq, Int.reduceBEq, Int.reduceLE, Int.reduceLT, firstRegion, gc, keptBoxes, keptRows, dedup, nodupB, idx, renameB, AV.boxes, AV.boxess, AV.rows, AV.rowss, AV.mapO, AV.mapOs, SS, one_ne2, num_ne2, TIS, MDS, wanted, numbered, plainC, plainS, evEq, eqK, evBox, evAlloc, evStore, evLoad, evFieldAddr, behind, takeVal, AV.cells, AV.isCell, ofCells, ofCell, Value.cells, Nat.reduceAdd, Nat.reduceEqDiff, Nat.reduceLT, Nat.reduceLeDiff, Nat.reduceMul, Nat.reduceSub, reduceIte]; first | done | rfl
    · rw [szLoop _ _ _ _ (by omega)]
      by_cases h2 : ((wl Epoch.w s : Nat) : Int) ≤ m
      · rw [left_le h2, left_le (by omega)]; congr 3; omega
      · rw [left_gt (by omega), left_gt (by omega)]
end Go.Proofs.Ytaoemmefjakjnaa.Flat
