/-
IsSafer: both sides.
-/
import Derived.Test.YtbajieiodabdgaaEqIS
set_option linter.unusedVariables false
set_option linter.unusedSimpArgs false
set_option maxRecDepth 10000
namespace Go.Proofs.Ytbajieiodabdgaa.Flat
theorem small_rowsM {s : List Choice} {id : Nat} (h : id < 8) : ((rowsN id s).all fun i => decide (i < 8)) = true := by unfold rowsN; split <;> simp [h]
theorem small_rows1 {s : List Choice} : ((rowsN 1 s).all fun i => decide (i < 8)) = true := small_rowsM (by decide)
noncomputable def safeAtoms (p q : Policy) (a o : Int) : List Cond := atomsL a o q.rules (atomsOf p a o)
noncomputable def isSafer (p q : Policy) (a o : Int) : Bool :=
  compOk p a o && compOk q a o && (decide ((safeAtoms p q a o).length ≤ 6) && !((List.range (2 ^ (safeAtoms p q a o).length)).any fun i => polB p a o (safeAtoms p q a o) (valsOf (safeAtoms p q a o).length i) && !polB q a o (safeAtoms p q a o) (valsOf (safeAtoms p q a o).length i)))
theorem safeAtoms_facts (p q : Policy) (a o : Int) : Leaves (safeAtoms p q a o) ∧ (safeAtoms p q a o).length ≤ (atomsOf p a o).length + q.w := by
  have h := atomsL_facts a o q.rules (atomsOf p a o)
  exact ⟨h.1 (atomsOf_leaves p a o), h.2⟩
set_option maxHeartbeats 8000000 in
theorem r_impl_IsSafer (k : Nat) (hk : 884940186000000 + 90 ≤ k) (p q : Policy) (hp0 : p.w ≤ 268435456) (hq0 : q.w ≤ 268435456) (a o : Int) :
    run E noExt k 51 [p.enc true, q.enc true, .int .i64 a, .int .i64 o] [] = some (.bool (isSafer p q a o), []) := by
  have hp : p.w ≤ 1099511627776 := by omega
  have hq : q.w ≤ 1099511627776 := by omega
  have hal := atomsOf_len p a o
  have hav := atomsOf_leaves p a o
  have hsc := scals_leaves hav
  have hsq := scals_leaves (atomsOf_leaves q a o)
  have hjf := safeAtoms_facts p q a o
  have hsj := scals_leaves hjf.1
  have hs1 := wl_length Rule.w q.rules
  have hqr : wl Rule.w q.rules ≤ 268435456 := hq0
  have hs : q.rules.length ≤ 140737488355328 := by omega
  have c1 := r_impl_CompileFor (k - 1) (by omega) p hp0 a o
  have c2 := r_impl_CompileFor (k - 1) (by omega) q hq0 a o
  have c3 := fun (c : Rule) => r_impl_IsFor (fl := true) (k - 1) (by omega) c a o
  have c4 := fun (c : Rule) (hc : c ∈ q.rules) out ho hl => r_impl_gathered0 (fl := true) c.cond (k - 1) (by have := wl_mem (w := Rule.w) hc; have hw : c.w = c.cond.w := rfl; omega) (by have := wl_mem (w := Rule.w) hc; have hw : c.w = c.cond.w := rfl; omega) out ho hl
  have c5 := r_impl_valuesOf (k - 1) (by omega) (safeAtoms p q a o).length
  have c6 := fun v => r_impl_PolicyBy (fl := true) (f2 := true) (f3 := true) (k - 1) (by omega) p a o (safeAtoms p q a o) v hp (by rw [wl_leaves hjf.1]; omega)
  have c7 := fun v => r_impl_PolicyBy (fl := true) (f2 := true) (f3 := true) (k - 1) (by omega) q a o (safeAtoms p q a o) v hq (by rw [wl_leaves hjf.1]; omega)
  have e6 : ∀ v, polBy (ruleBy a o (safeAtoms p q a o) v) p.rules = polB p a o (safeAtoms p q a o) v := fun _ => rfl
  have e7 : ∀ v, polBy (ruleBy a o (safeAtoms p q a o) v) q.rules = polB q a o (safeAtoms p q a o) v := fun _ => rfl
  simp -implicitDefEqProofs only [e6] at c6
  simp -implicitDefEqProofs only [e7] at c7
  clear e6 e7
  have hyp := fun h => (compFor_yesI (p := p) (a := a) (o := o) h)
  have hyq := fun h => (compFor_yesI (p := q) (a := a) (o := o) h)
  have hnp := fun h => (compFor_noI (p := p) (a := a) (o := o) h)
  have hnq := fun h => (compFor_noI (p := q) (a := a) (o := o) h)
  unfold isSafer
  obtain ⟨k, rfl⟩ : ∃ j, k = j + 1 := ⟨k - 1, by omega⟩
  rw [run_succ rfl rfl, body_eq (nt := 85) (fn := Go.Proofs.Try.f51) (by kernel_rfl) rfl rfl rfl rfl rfl rfl rfl rfl]
  simp -implicitDefEqProofs only [Nat.add_sub_cancel, enc_Policy, enc_Rule, enc_Cond] at c1 c2 c3 c4 c5 c6 c7
  cases hA : compOk p a o with
  | false =>
    rw [hA, hnp hA] at c1
    cases hB : compOk q a o with
    | false =>
      rw [hB, hnq hB] at c2
      simp -implicitDefEqProofs only [QS, QN, QG, QO, Go.Proofs.Try.f51, enc_Policy, c1, c2, ifEv_bool, gate_bool, pick_bool, if_false, if_true, SO, SH, frzO, frzE, AV.laid, AV.treeV, AV.treeC, St.laid, spent, AV.subs, AV.shut, AV.scal, AV.scals, evBuildSlice, elemsOf, zeroOK, evAppend, rowOf, noref, isRef, small, import_, AV.any, AV.anys, isPtr, finV, rename, noPtr, isBad, AV.isUndef, St.setRow, AV.shutV, rebuild, isAggV, evBuild, fillCells, evCutOwn, dedup, nodupB, idx, AV.rows, AV.rowss, AV.mapO, AV.mapOs, firstRegion, gc, keptBoxes, keptRows, renameB, AV.boxes, AV.boxess, SN, evCutRow, Int.reduceToNat, id_eq, Int.reduceBEq, Int.reduceLE, Int.reduceLT, SS, one_ne2, num_ne2, TIS, MDS, wanted, numbered, plainC, plainS, evEq, eqK, evBox, evAlloc, evStore, evLoad, evFieldAddr, behind, takeVal, AV.cells, AV.isCell, ofCells, ofCell, Value.cells, Nat.reduceAdd, Nat.reduceEqDiff, Nat.reduceLT, Nat.reduceLeDiff, Nat.reduceMul, Nat.reduceSub, reduceIte]
    | true =>
      rw [hB, hyq hB] at c2
      simp -implicitDefEqProofs only [QS, QN, QG, QO, Go.Proofs.Try.f51, enc_Policy, c1, c2, hsq, ifEv_bool, gate_bool, pick_bool, if_false, if_true, back_rowsN, rows_encR, boxes_encR, ↓isCell_encR, len_rowsN, dedup_rowsN, nodup_rowsN, all_rowsN, any_encR, mapO_encR, ref_encR, scal_encR, small_rowsN, lend_encR4, imp_encR, small_rows1, SO, SH, frzO, frzE, AV.laid, AV.treeV, AV.treeC, St.laid, spent, AV.subs, AV.shut, AV.scal, AV.scals, evBuildSlice, elemsOf, zeroOK, evAppend, rowOf, noref, isRef, small, import_, AV.any, AV.anys, isPtr, finV, rename, noPtr, isBad, AV.isUndef, St.setRow, AV.shutV, rebuild, isAggV, evBuild, fillCells, evCutOwn, dedup, nodupB, idx, AV.rows, AV.rowss, AV.mapO, AV.mapOs, firstRegion, gc, keptBoxes, keptRows, renameB, AV.boxes, AV.boxess, SN, evCutRow, Int.reduceToNat, id_eq, Int.reduceBEq, Int.reduceLE, Int.reduceLT, SS, one_ne2, num_ne2, TIS, MDS, wanted, numbered, plainC, plainS, evEq, eqK, evBox, evAlloc, evStore, evLoad, evFieldAddr, behind, takeVal, AV.cells, AV.isCell, ofCells, ofCell, Value.cells, Nat.reduceAdd, Nat.reduceEqDiff, Nat.reduceLT, Nat.reduceLeDiff, Nat.reduceMul, Nat.reduceSub, reduceIte]
  | true =>
    rw [hA, hyp hA] at c1
    cases hB : compOk q a o with
    | false =>
      rw [hB, hnq hB] at c2
      simp -implicitDefEqProofs only [QS, QN, QG, QO, Go.Proofs.Try.f51, enc_Policy, c1, c2, hsc, ifEv_bool, gate_bool, pick_bool, if_false, if_true, back_rowsN, rows_encR, boxes_encR, ↓isCell_encR, len_rowsN, dedup_rowsN, nodup_rowsN, all_rowsN, any_encR, mapO_encR, ref_encR, scal_encR, small_rowsN, lend_encR4, imp_encR, small_rows1, SO, SH, frzO, frzE, AV.laid, AV.treeV, AV.treeC, St.laid, spent, AV.subs, AV.shut, AV.scal, AV.scals, evBuildSlice, elemsOf, zeroOK, evAppend, rowOf, noref, isRef, small, import_, AV.any, AV.anys, isPtr, finV, rename, noPtr, isBad, AV.isUndef, St.setRow, AV.shutV, rebuild, isAggV, evBuild, fillCells, evCutOwn, dedup, nodupB, idx, AV.rows, AV.rowss, AV.mapO, AV.mapOs, firstRegion, gc, keptBoxes, keptRows, renameB, AV.boxes, AV.boxess, SN, evCutRow, Int.reduceToNat, id_eq, Int.reduceBEq, Int.reduceLE, Int.reduceLT, SS, one_ne2, num_ne2, TIS, MDS, wanted, numbered, plainC, plainS, evEq, eqK, evBox, evAlloc, evStore, evLoad, evFieldAddr, behind, takeVal, AV.cells, AV.isCell, ofCells, ofCell, Value.cells, Nat.reduceAdd, Nat.reduceEqDiff, Nat.reduceLT, Nat.reduceLeDiff, Nat.reduceMul, Nat.reduceSub, reduceIte]
    | true =>
      rw [hB, hyq hB] at c2
      simp -implicitDefEqProofs only [Bool.true_and]
      simp -implicitDefEqProofs only [QS, QN, QO, Go.Proofs.Try.f51, enc_Policy, c1, c2, hsc, hsq, ifEv_bool, gate_bool, pick_bool, if_false, if_true, back_rowsN, rows_encR, boxes_encR, ↓isCell_encR, len_rowsN, dedup_rowsN, nodup_rowsN, all_rowsN, any_encR, mapO_encR, ref_encR, scal_encR, small_rowsN, lend_encR4, imp_encR, small_rows1, SO, SH, frzO, frzE, AV.laid, AV.treeV, AV.treeC, St.laid, spent, AV.subs, AV.shut, AV.scal, AV.scals, evBuildSlice, elemsOf, zeroOK, evAppend, rowOf, noref, isRef, small, import_, AV.any, AV.anys, isPtr, finV, rename, noPtr, isBad, AV.isUndef, St.setRow, AV.shutV, rebuild, isAggV, evBuild, fillCells, evCutOwn, dedup, nodupB, idx, AV.rows, AV.rowss, AV.mapO, AV.mapOs, SN, evCutRow, Int.reduceToNat, id_eq, Int.reduceBEq, Int.reduceLE, Int.reduceLT, SS, one_ne2, num_ne2, TIS, MDS, wanted, numbered, plainC, plainS, evEq, eqK, evBox, evAlloc, evStore, evLoad, evFieldAddr, behind, takeVal, AV.cells, AV.isCell, ofCells, ofCell, Value.cells, Nat.reduceAdd, Nat.reduceEqDiff, Nat.reduceLT, Nat.reduceLeDiff, Nat.reduceMul, Nat.reduceSub, reduceIte]
      rw [ev_loop]
      have hJ : atomsL a o q.rules (atomsOf p a o) = safeAtoms p q a o := rfl
      refine loop_list (Q := fun (g : List Cond) z => g = safeAtoms p q a o → thenEnd E.P _ _ 0 (thenEv E _ _ _ _ _ (outOf 0 z)) = some (.bool _, [])) q.rules (atStep a o) id
        (fun i b => { sl := [(2, .int .i64 a), (3, .int .i64 o), (4, .ptr 0 0), (5, .ptr 1 0), (13, .own 0 false 45 4 (b.map (Cond.enc true))), (41, .sl true (q.rules.map (Rule.enc true))), (42, .int .i64 (q.rules.length : Nat)), (43, .int .i64 (i : Nat))], bx := [(0, [.int .i64 p.version, .sl true (p.rules.map (Rule.enc true))]), (1, [.int .i64 q.version, .sl true (q.rules.map (Rule.enc true))])], nx := 3, nt := 85 })
        (fun i b => Leaves b ∧ b.length + wl Rule.w (q.rules.drop i) ≤ (atomsOf p a o).length + wl Rule.w q.rules) (atomsOf p a o) ?_ ?_ ?_ ⟨hav, by simp⟩ ?_ ((atLoop a o q.rules 0 (atomsOf p a o)).trans hJ)
      · intro b _
        simp -implicitDefEqProofs only [QS, QN, QO, leaf_some, isNormal, ifEv_bool, SO, SH, frzO, frzE, AV.laid, AV.treeV, AV.treeC, St.laid, spent, AV.subs, AV.shut, AV.scal, AV.scals, evBuildSlice, elemsOf, zeroOK, evAppend, rowOf, noref, isRef, small, import_, AV.any, AV.anys, isPtr, finV, rename, noPtr, isBad, AV.isUndef, St.setRow, AV.shutV, rebuild, isAggV, evBuild, fillCells, evCutOwn, dedup, nodupB, idx, AV.rows, AV.rowss, AV.mapO, AV.mapOs, SN, evCutRow, Int.reduceToNat, id_eq, Int.reduceBEq, Int.reduceLE, Int.reduceLT, SS, one_ne2, num_ne2, TIS, MDS, wanted, numbered, plainC, plainS, evEq, eqK, evBox, evAlloc, evStore, evLoad, evFieldAddr, behind, takeVal, AV.cells, AV.isCell, ofCells, ofCell, Value.cells, Nat.reduceAdd, Nat.reduceEqDiff, Nat.reduceLT, Nat.reduceLeDiff, Nat.reduceMul, Nat.reduceSub, reduceIte]
        intro he
        subst he
        clear hJ c1 c2 c3 c4
        generalize safeAtoms p q a o = at_ at *
        by_cases hn : at_.length ≤ 6
        · have hgt : decide (((at_.length : Nat) : Int) > 6) = false := decide_eq_false (by omega)
          have hle : decide (at_.length ≤ 6) = true := decide_eq_true hn
          have hsl : ∀ t, evBin2 E.P .shl t (.int .i64 1) (.int .i64 ((at_.length : Nat) : Int)) = some (.int .i64 ((2 ^ at_.length : Nat) : Int)) := fun t => by
            have h1 : (((at_.length : Nat) : Int) < 0) = False := eq_false (by omega)
            simp -implicitDefEqProofs only [evBin2, evBin, evShift, h1, if_false, shl_small at_.length (by omega)]
          have hN : 2 ^ at_.length ≤ 64 := Nat.le_trans (Nat.pow_le_pow_right (by decide) hn) (by decide)
          have c5 := fun i hi => c5 i hn hi
          rw [hle, Bool.true_and, ← anyLoopG _ _ 0]
          generalize (2 : Nat) ^ at_.length = N at *
          simp -implicitDefEqProofs only [QS, QN, QO, hgt, hsl, ifEv_bool, leaf_some, isNormal, if_false, if_true, SO, SH, frzO, frzE, AV.laid, AV.treeV, AV.treeC, St.laid, spent, AV.subs, AV.shut, AV.scal, AV.scals, evBuildSlice, elemsOf, zeroOK, evAppend, rowOf, noref, isRef, small, import_, AV.any, AV.anys, isPtr, finV, rename, noPtr, isBad, AV.isUndef, St.setRow, AV.shutV, rebuild, isAggV, evBuild, fillCells, evCutOwn, dedup, nodupB, idx, AV.rows, AV.rowss, AV.mapO, AV.mapOs, SN, evCutRow, Int.reduceToNat, id_eq, Int.reduceBEq, Int.reduceLE, Int.reduceLT, SS, one_ne2, num_ne2, TIS, MDS, wanted, numbered, plainC, plainS, evEq, eqK, evBox, evAlloc, evStore, evLoad, evFieldAddr, behind, takeVal, AV.cells, AV.isCell, ofCells, ofCell, Value.cells, Nat.reduceAdd, Nat.reduceEqDiff, Nat.reduceLT, Nat.reduceLeDiff, Nat.reduceMul, Nat.reduceSub, reduceIte]
          rw [ev_loop]
          refine loop_list (Q := fun (g : Bool) z => thenEnd E.P _ _ 0 (thenEv E _ _ _ _ _ (outOf 2 z)) = some (.bool (!g), [])) (List.range N) (anyStepG fun i => polB p a o at_ (valsOf at_.length i) && !polB q a o at_ (valsOf at_.length i)) (fun _ => false)
            (fun i _ => { sl := [(2, .int .i64 a), (3, .int .i64 o), (4, .ptr 0 0), (5, .ptr 1 0), (13, .own 0 false 45 4 (at_.map (Cond.enc true))), (61, .int .i64 (N : Nat)), (62, .int .i64 (i : Nat))], bx := [(0, [.int .i64 p.version, .sl true (p.rules.map (Rule.enc true))]), (1, [.int .i64 q.version, .sl true (q.rules.map (Rule.enc true))])], nx := 3, nt := 85 })
            (fun _ _ => True) () ?_ ?_ ?_ trivial ?_
          · intro _ _
            simp -implicitDefEqProofs only [QS, QN, QG, QO, List.length_range, SO, SH, frzO, frzE, AV.laid, AV.treeV, AV.treeC, St.laid, spent, AV.subs, AV.shut, AV.scal, AV.scals, evBuildSlice, elemsOf, zeroOK, evAppend, rowOf, noref, isRef, small, import_, AV.any, AV.anys, isPtr, finV, rename, noPtr, isBad, AV.isUndef, St.setRow, AV.shutV, rebuild, isAggV, evBuild, fillCells, evCutOwn, dedup, nodupB, idx, AV.rows, AV.rowss, AV.mapO, AV.mapOs, firstRegion, gc, keptBoxes, keptRows, renameB, AV.boxes, AV.boxess, leaf_some, isNormal, ifEv_bool, gate_bool, gateP_bool, gateQ_bool, pick_bool, SN, evCutRow, Int.reduceToNat, id_eq, Int.reduceBEq, Int.reduceLE, Int.reduceLT, SS, one_ne2, num_ne2, TIS, MDS, wanted, numbered, plainC, plainS, evEq, eqK, evBox, evAlloc, evStore, evLoad, evFieldAddr, behind, takeVal, AV.cells, AV.isCell, ofCells, ofCell, Value.cells, Nat.reduceAdd, Nat.reduceEqDiff, Nat.reduceLT, Nat.reduceLeDiff, Nat.reduceMul, Nat.reduceSub, reduceIte]
            repeat' (split <;> (rename_i h; (try simp -implicitDefEqProofs only [Bool.not_eq_true', Bool.not_eq_false', decide_eq_true_eq, decide_eq_false_iff_not] at h); (try simp -implicitDefEqProofs only [QS, QN, QG, QO, *, List.length_range, SO, SH, frzO, frzE, AV.laid, AV.treeV, AV.treeC, St.laid, spent, AV.subs, AV.shut, AV.scal, AV.scals, evBuildSlice, elemsOf, zeroOK, evAppend, rowOf, noref, isRef, small, import_, AV.any, AV.anys, isPtr, finV, rename, noPtr, isBad, AV.isUndef, St.setRow, AV.shutV, rebuild, isAggV, evBuild, fillCells, evCutOwn, dedup, nodupB, idx, AV.rows, AV.rowss, AV.mapO, AV.mapOs, firstRegion, gc, keptBoxes, keptRows, renameB, AV.boxes, AV.boxess, leaf_some, isNormal, ifEv_bool, gate_bool, gateP_bool, gateQ_bool, pick_bool, SN, evCutRow, Int.reduceToNat, id_eq, Int.reduceBEq, Int.reduceLE, Int.reduceLT, SS, one_ne2, num_ne2, TIS, MDS, wanted, numbered, plainC, plainS, evEq, eqK, evBox, evAlloc, evStore, evLoad, evFieldAddr, behind, takeVal, AV.cells, AV.isCell, ofCells, ofCell, Value.cells, Nat.reduceAdd, Nat.reduceEqDiff, Nat.reduceLT, Nat.reduceLeDiff, Nat.reduceMul, Nat.reduceSub, reduceIte])))
          · intro pre x r' _ hs' _
            obtain ⟨hxe, hpr⟩ := range_at hs'
            have h5 : ((pre.length : Int) < (N : Int)) = True := eq_true (by omega)
            have hw1 : IntKind.i64.wrap ((pre.length : Int) + 1) = ((pre.length + 1 : Nat) : Int) := by rw [IntWalk.i64_in _ (by omega)]; omega
            clear hs'
            subst hxe
            have c8 := c5 pre.length (by omega)
            have c9 := c6 (valsOf at_.length pre.length)
            have c10 := c7 (valsOf at_.length pre.length)
            have hst : anyStepG (fun i => polB p a o at_ (valsOf at_.length i) && !polB q a o at_ (valsOf at_.length i)) pre.length pre.length () = if (polB p a o at_ (valsOf at_.length pre.length) && !polB q a o at_ (valsOf at_.length pre.length)) = true then .inl true else .inr () := rfl
            clear c5 c6 c7
            generalize polB p a o at_ (valsOf at_.length pre.length) = e1 at *
            generalize polB q a o at_ (valsOf at_.length pre.length) = e2 at *
            cases e1 <;> cases e2 <;> simp -implicitDefEqProofs only [Bool.and_self, Bool.and_true, Bool.and_false, Bool.true_and, Bool.false_and, Bool.not_true, Bool.not_false, Bool.false_eq_true, if_false, if_true] at hst
            all_goals
              simp -implicitDefEqProofs only [QS, QN, QG, QO, h5, hw1, c8, c9, c10, hst, scals_bools2, hsj, if_false, if_true, SO, SH, frzO, frzE, AV.laid, AV.treeV, AV.treeC, St.laid, spent, AV.subs, AV.shut, AV.scal, AV.scals, evBuildSlice, elemsOf, zeroOK, evAppend, rowOf, noref, isRef, small, import_, AV.any, AV.anys, isPtr, finV, rename, noPtr, isBad, AV.isUndef, St.setRow, AV.shutV, rebuild, isAggV, evBuild, fillCells, evCutOwn, dedup, nodupB, idx, AV.rows, AV.rowss, AV.mapO, AV.mapOs, firstRegion, gc, keptBoxes, keptRows, renameB, AV.boxes, AV.boxess, keep_51_15, leaf_some, isNormal, ifEv_bool, gate_bool, gateP_bool, gateQ_bool, pick_bool, SN, evCutRow, Int.reduceToNat, id_eq, Int.reduceBEq, Int.reduceLE, Int.reduceLT, SS, one_ne2, num_ne2, TIS, MDS, wanted, numbered, plainC, plainS, evEq, eqK, evBox, evAlloc, evStore, evLoad, evFieldAddr, behind, takeVal, AV.cells, AV.isCell, ofCells, ofCell, Value.cells, Nat.reduceAdd, Nat.reduceEqDiff, Nat.reduceLT, Nat.reduceLeDiff, Nat.reduceMul, Nat.reduceSub, reduceIte]
              repeat' (split <;> (rename_i h; (try simp -implicitDefEqProofs only [Bool.not_eq_true', Bool.not_eq_false', decide_eq_true_eq, decide_eq_false_iff_not] at h); (try simp -implicitDefEqProofs only [QS, QN, QG, QO, *, h5, hw1, c8, c9, c10, hst, scals_bools2, hsj, if_false, if_true, SO, SH, frzO, frzE, AV.laid, AV.treeV, AV.treeC, St.laid, spent, AV.subs, AV.shut, AV.scal, AV.scals, evBuildSlice, elemsOf, zeroOK, evAppend, rowOf, noref, isRef, small, import_, AV.any, AV.anys, isPtr, finV, rename, noPtr, isBad, AV.isUndef, St.setRow, AV.shutV, rebuild, isAggV, evBuild, fillCells, evCutOwn, dedup, nodupB, idx, AV.rows, AV.rowss, AV.mapO, AV.mapOs, firstRegion, gc, keptBoxes, keptRows, renameB, AV.boxes, AV.boxess, keep_51_15, leaf_some, isNormal, ifEv_bool, gate_bool, gateP_bool, gateQ_bool, pick_bool, SN, evCutRow, Int.reduceToNat, id_eq, Int.reduceBEq, Int.reduceLE, Int.reduceLT, SS, one_ne2, num_ne2, TIS, MDS, wanted, numbered, plainC, plainS, evEq, eqK, evBox, evAlloc, evStore, evLoad, evFieldAddr, behind, takeVal, AV.cells, AV.isCell, ofCells, ofCell, Value.cells, Nat.reduceAdd, Nat.reduceEqDiff, Nat.reduceLT, Nat.reduceLeDiff, Nat.reduceMul, Nat.reduceSub, reduceIte])))
          · simp; omega
          · simp -implicitDefEqProofs only [firstRegion]
            rw [keep_51_15]
            simp -implicitDefEqProofs only [QS, QN, QG, QO, SN, evCutRow, Int.reduceToNat, id_eq, Int.reduceBEq, Int.reduceLE, Int.reduceLT, SO, SH, frzO, frzE, AV.laid, AV.treeV, AV.treeC, St.laid, spent, AV.subs, AV.shut, AV.scal, AV.scals, evBuildSlice, elemsOf, zeroOK, evAppend, rowOf, noref, isRef, small, import_, AV.any, AV.anys, isPtr, finV, rename, noPtr, isBad, AV.isUndef, St.setRow, AV.shutV, rebuild, isAggV, evBuild, fillCells, evCutOwn, dedup, nodupB, idx, AV.rows, AV.rowss, AV.mapO, AV.mapOs, firstRegion, gc, keptBoxes, keptRows, renameB, AV.boxes, AV.boxess, SS, one_ne2, num_ne2, TIS, MDS, wanted, numbered, plainC, plainS, evEq, eqK, evBox, evAlloc, evStore, evLoad, evFieldAddr, behind, takeVal, AV.cells, AV.isCell, ofCells, ofCell, Value.cells, Nat.reduceAdd, Nat.reduceEqDiff, Nat.reduceLT, Nat.reduceLeDiff, Nat.reduceMul, Nat.reduceSub, reduceIte]
        · have hgt : decide (((at_.length : Nat) : Int) > 6) = true := decide_eq_true (by omega)
          have hle : decide (at_.length ≤ 6) = false := decide_eq_false (by omega)
          rw [hle, Bool.false_and]
          simp -implicitDefEqProofs only [QS, QN, QG, QO, hgt, SO, SH, frzO, frzE, AV.laid, AV.treeV, AV.treeC, St.laid, spent, AV.subs, AV.shut, AV.scal, AV.scals, evBuildSlice, elemsOf, zeroOK, evAppend, rowOf, noref, isRef, small, import_, AV.any, AV.anys, isPtr, finV, rename, noPtr, isBad, AV.isUndef, St.setRow, AV.shutV, rebuild, isAggV, evBuild, fillCells, evCutOwn, dedup, nodupB, idx, AV.rows, AV.rowss, AV.mapO, AV.mapOs, firstRegion, gc, keptBoxes, keptRows, renameB, AV.boxes, AV.boxess, leaf_some, isNormal, ifEv_bool, gate_bool, gateP_bool, gateQ_bool, pick_bool, SN, evCutRow, Int.reduceToNat, id_eq, Int.reduceBEq, Int.reduceLE, Int.reduceLT, SS, one_ne2, num_ne2, TIS, MDS, wanted, numbered, plainC, plainS, evEq, eqK, evBox, evAlloc, evStore, evLoad, evFieldAddr, behind, takeVal, AV.cells, AV.isCell, ofCells, ofCell, Value.cells, Nat.reduceAdd, Nat.reduceEqDiff, Nat.reduceLT, Nat.reduceLeDiff, Nat.reduceMul, Nat.reduceSub, reduceIte]
          repeat' (split <;> (rename_i h; (try simp -implicitDefEqProofs only [Bool.not_eq_true', Bool.not_eq_false', decide_eq_true_eq, decide_eq_false_iff_not] at h); (try simp -implicitDefEqProofs only [QS, QN, QG, QO, *, hgt, SO, SH, frzO, frzE, AV.laid, AV.treeV, AV.treeC, St.laid, spent, AV.subs, AV.shut, AV.scal, AV.scals, evBuildSlice, elemsOf, zeroOK, evAppend, rowOf, noref, isRef, small, import_, AV.any, AV.anys, isPtr, finV, rename, noPtr, isBad, AV.isUndef, St.setRow, AV.shutV, rebuild, isAggV, evBuild, fillCells, evCutOwn, dedup, nodupB, idx, AV.rows, AV.rowss, AV.mapO, AV.mapOs, firstRegion, gc, keptBoxes, keptRows, renameB, AV.boxes, AV.boxess, leaf_some, isNormal, ifEv_bool, gate_bool, gateP_bool, gateQ_bool, pick_bool, SN, evCutRow, Int.reduceToNat, id_eq, Int.reduceBEq, Int.reduceLE, Int.reduceLT, SS, one_ne2, num_ne2, TIS, MDS, wanted, numbered, plainC, plainS, evEq, eqK, evBox, evAlloc, evStore, evLoad, evFieldAddr, behind, takeVal, AV.cells, AV.isCell, ofCells, ofCell, Value.cells, Nat.reduceAdd, Nat.reduceEqDiff, Nat.reduceLT, Nat.reduceLeDiff, Nat.reduceMul, Nat.reduceSub, reduceIte])))
      · intro pre c r b hs' ⟨hb1, hb2⟩
        have hx := (at_row hs' hs).1; have hc := (at_row hs' hs).2.1; have hlt := (at_row hs' hs).2.2.1; have hw1 := (at_row hs' hs).2.2.2.1; have hl9 := (at_row hs' hs).2.2.2.2
        have hd : q.rules.drop pre.length = c :: r := by rw [hs']; simp
        have hd1 : q.rules.drop (pre.length + 1) = r := by rw [hs']; simp
        have hg1 := gather_facts c.cond b
        have hw : c.w = c.cond.w := rfl
        rw [hd] at hb2
        simp -implicitDefEqProofs only [wl] at hb2
        have c8 := c3 c
        have c9 := c4 c hc b hb1 (by omega)
        have hI : Leaves (if isFor c a o = true then gather c.cond b else b) ∧ (if isFor c a o = true then gather c.cond b else b).length + wl Rule.w (q.rules.drop (pre.length + 1)) ≤ (atomsOf p a o).length + wl Rule.w q.rules := by
          rw [hd1]
          split
          · exact ⟨hg1.1 hb1, by have := hg1.2; omega⟩
          · exact ⟨hb1, by omega⟩
        have hst : atStep a o pre.length c b = .inr (if isFor c a o = true then gather c.cond b else b) := rfl
        clear hs' hd hd1 c1 c2 c3 c4 c5 c6 c7
        have hs1 := scals_leaves hb1
        have hs2 := scals_leaves (hg1.1 hb1)
        cases e : isFor c a o <;> rw [e] at c8 hst hI <;> simp -implicitDefEqProofs only [Bool.false_eq_true, if_false, if_true] at hst hI
        all_goals
          simp -implicitDefEqProofs only [QS, QN, QG, QO, enc_Rule, enc_Cond, hx, hlt, hw1, c8, c9, hs1, hs2, hst, evCall_rg, look_cons, reduceCtorEq, evCall_mutOwn, evCall_mutAgg, evGive, giveRows, ioBoxes, mutArgs, roArgs, handArg, mutSlots, isPtrB, pairs, pairss, back_nil, back_cons, backO, backE, setBoxes, importB, mode_mut, mode_give, mode_io, mode_ro, List.zip_cons_cons, List.zip_nil_left, List.zip_nil_right, ite_self, ite_true, ite_false, finish_give, finish_mut1, finish_io0, finish_io1, finish_io2, finish_io3, finish_ioc, finI, finC, finW_ptr, SO, SH, frzO, frzE, AV.laid, AV.treeV, AV.treeC, St.laid, spent, AV.subs, AV.shut, AV.scal, AV.scals, evBuildSlice, elemsOf, zeroOK, evAppend, rowOf, noref, isRef, small, import_, AV.any, AV.anys, isPtr, finV, rename, noPtr, isBad, AV.isUndef, St.setRow, AV.shutV, rebuild, isAggV, evBuild, fillCells, evCutOwn, dedup, nodupB, idx, AV.rows, AV.rowss, AV.mapO, AV.mapOs, firstRegion, gc, keptBoxes, keptRows, renameB, AV.boxes, AV.boxess, keep_51_7, leaf_some, isNormal, ifEv_bool, gate_bool, gateP_bool, gateQ_bool, pick_bool, SN, evCutRow, Int.reduceToNat, id_eq, Int.reduceBEq, Int.reduceLE, Int.reduceLT, SS, one_ne2, num_ne2, TIS, MDS, wanted, numbered, plainC, plainS, evEq, eqK, evBox, evAlloc, evStore, evLoad, evFieldAddr, behind, takeVal, AV.cells, AV.isCell, ofCells, ofCell, Value.cells, Nat.reduceAdd, Nat.reduceEqDiff, Nat.reduceLT, Nat.reduceLeDiff, Nat.reduceMul, Nat.reduceSub, reduceIte]
          repeat' (split <;> (rename_i h; (try simp -implicitDefEqProofs only [Bool.not_eq_true', Bool.not_eq_false', decide_eq_true_eq, decide_eq_false_iff_not] at h); (try simp -implicitDefEqProofs only [QS, QN, QG, QO, *, enc_Rule, enc_Cond, hx, hlt, hw1, c8, c9, hs1, hs2, hst, evCall_rg, look_cons, reduceCtorEq, evCall_mutOwn, evCall_mutAgg, evGive, giveRows, ioBoxes, mutArgs, roArgs, handArg, mutSlots, isPtrB, pairs, pairss, back_nil, back_cons, backO, backE, setBoxes, importB, mode_mut, mode_give, mode_io, mode_ro, List.zip_cons_cons, List.zip_nil_left, List.zip_nil_right, ite_self, ite_true, ite_false, finish_give, finish_mut1, finish_io0, finish_io1, finish_io2, finish_io3, finish_ioc, finI, finC, finW_ptr, SO, SH, frzO, frzE, AV.laid, AV.treeV, AV.treeC, St.laid, spent, AV.subs, AV.shut, AV.scal, AV.scals, evBuildSlice, elemsOf, zeroOK, evAppend, rowOf, noref, isRef, small, import_, AV.any, AV.anys, isPtr, finV, rename, noPtr, isBad, AV.isUndef, St.setRow, AV.shutV, rebuild, isAggV, evBuild, fillCells, evCutOwn, dedup, nodupB, idx, AV.rows, AV.rowss, AV.mapO, AV.mapOs, firstRegion, gc, keptBoxes, keptRows, renameB, AV.boxes, AV.boxess, keep_51_7, leaf_some, isNormal, ifEv_bool, gate_bool, gateP_bool, gateQ_bool, pick_bool, SN, evCutRow, Int.reduceToNat, id_eq, Int.reduceBEq, Int.reduceLE, Int.reduceLT, SS, one_ne2, num_ne2, TIS, MDS, wanted, numbered, plainC, plainS, evEq, eqK, evBox, evAlloc, evStore, evLoad, evFieldAddr, behind, takeVal, AV.cells, AV.isCell, ofCells, ofCell, Value.cells, Nat.reduceAdd, Nat.reduceEqDiff, Nat.reduceLT, Nat.reduceLeDiff, Nat.reduceMul, Nat.reduceSub, reduceIte])))
          exact hI
      · omega
      · simp -implicitDefEqProofs only [firstRegion]
        rw [keep_51_7]
        simp -implicitDefEqProofs only [QS, QN, QG, QO, back_rowsN, rows_encR, boxes_encR, ↓isCell_encR, len_rowsN, dedup_rowsN, nodup_rowsN, all_rowsN, any_encR, mapO_encR, ref_encR, scal_encR, small_rowsN, lend_encR4, SN, evCutRow, Int.reduceToNat, id_eq, Int.reduceBEq, Int.reduceLE, Int.reduceLT, SO, SH, frzO, frzE, AV.laid, AV.treeV, AV.treeC, St.laid, spent, AV.subs, AV.shut, AV.scal, AV.scals, evBuildSlice, elemsOf, zeroOK, evAppend, rowOf, noref, isRef, small, import_, AV.any, AV.anys, isPtr, finV, rename, noPtr, isBad, AV.isUndef, St.setRow, AV.shutV, rebuild, isAggV, evBuild, fillCells, evCutOwn, dedup, nodupB, idx, AV.rows, AV.rowss, AV.mapO, AV.mapOs, firstRegion, gc, keptBoxes, keptRows, renameB, AV.boxes, AV.boxess, SS, one_ne2, num_ne2, TIS, MDS, wanted, numbered, plainC, plainS, evEq, eqK, evBox, evAlloc, evStore, evLoad, evFieldAddr, behind, takeVal, AV.cells, AV.isCell, ofCells, ofCell, Value.cells, Nat.reduceAdd, Nat.reduceEqDiff, Nat.reduceLT, Nat.reduceLeDiff, Nat.reduceMul, Nat.reduceSub, reduceIte]
set_option maxHeartbeats 8000000 in
theorem r_spec_IsSafer (k : Nat) (hk : 884940186000000 + 90 ≤ k) (p q : Policy) (hp0 : p.w ≤ 268435456) (hq0 : q.w ≤ 268435456) (a o : Int) :
    run E noExt k 50 [p.enc true, q.enc true, .int .i64 a, .int .i64 o] [] = some (.bool (isSafer p q a o), []) := by
  have hp : p.w ≤ 1099511627776 := by omega
  have hq : q.w ≤ 1099511627776 := by omega
  have hal := atomsOf_len p a o
  have hal2 := atomsOf_len q a o
  have hav := atomsOf_leaves p a o
  have hav2 := atomsOf_leaves q a o
  have hsc := scals_leaves hav
  have hsq := scals_leaves hav2
  have hjf := safeAtoms_facts p q a o
  have hsj := scals_leaves hjf.1
  have c1 := r_spec_CompileFor (k - 1) (by omega) p hp0 a o
  have c2 := r_spec_CompileFor (k - 1) (by omega) q hq0 a o
  have c3 := r_spec_AtomsFor (fl := true) (k - 1) p (by omega) hp a o
  have c4 := r_spec_AtomsFor (fl := true) (k - 1) q (by omega) hq a o
  have cj := r_spec_l23Join (fl := true) (gl := true) (k - 1) (atomsOf p a o) (atomsOf q a o) (by rw [wl_leaves hav, wl_leaves hav2]; omega) (by rw [wl_leaves hav, wl_leaves hav2]; omega)
  rw [join_eq, show atomsL a o q.rules (atomsOf p a o) = safeAtoms p q a o from rfl] at cj
  have cb := r_spec_l21Bit (k - 1) (by omega) (safeAtoms p q a o).length
  have c5 := r_spec_l21Values (k - 1) (by omega) (safeAtoms p q a o).length
  have c6 := fun v => r_spec_PolicyBy (fl := true) (f2 := true) (f3 := true) (k - 1) (by omega) p a o (safeAtoms p q a o) v hp (by rw [wl_leaves hjf.1]; omega)
  have c7 := fun v => r_spec_PolicyBy (fl := true) (f2 := true) (f3 := true) (k - 1) (by omega) q a o (safeAtoms p q a o) v hq (by rw [wl_leaves hjf.1]; omega)
  have e6 : ∀ v, polBy (ruleBy a o (safeAtoms p q a o) v) p.rules = polB p a o (safeAtoms p q a o) v := fun _ => rfl
  have e7 : ∀ v, polBy (ruleBy a o (safeAtoms p q a o) v) q.rules = polB q a o (safeAtoms p q a o) v := fun _ => rfl
  simp -implicitDefEqProofs only [e6] at c6
  simp -implicitDefEqProofs only [e7] at c7
  clear e6 e7
  have hyp := fun h => (compFor_yesI (p := p) (a := a) (o := o) h)
  have hyq := fun h => (compFor_yesI (p := q) (a := a) (o := o) h)
  have hnp := fun h => (compFor_noI (p := p) (a := a) (o := o) h)
  have hnq := fun h => (compFor_noI (p := q) (a := a) (o := o) h)
  unfold isSafer
  obtain ⟨k, rfl⟩ : ∃ j, k = j + 1 := ⟨k - 1, by omega⟩
  rw [run_succ rfl rfl, body_eq (nt := 76) (fn := Go.Proofs.Try.f50) (by kernel_rfl) rfl rfl rfl rfl rfl rfl rfl rfl]
  simp -implicitDefEqProofs only [Nat.add_sub_cancel, enc_Policy] at c1 c2 c3 c4 c5 c6 c7 cj cb
  cases hA : compOk p a o with
  | false =>
    rw [hA, hnp hA] at c1
    cases hB : compOk q a o with
    | false =>
      rw [hB, hnq hB] at c2
      simp -implicitDefEqProofs only [QS, QN, QG, QO, Go.Proofs.Try.f50, enc_Policy, c1, c2, c3, c4, cj, hsc, hsq, hsj, plan_50_3, ifEv_bool, gate_bool, pick_bool, if_false, if_true, back_rowsN, rows_encR, boxes_encR, ↓isCell_encR, len_rowsN, dedup_rowsN, nodup_rowsN, all_rowsN, any_encR, mapO_encR, ref_encR, scal_encR, small_rowsN, lend_encR4, imp_encR, small_rows1, SO, SH, frzO, frzE, AV.laid, AV.treeV, AV.treeC, St.laid, spent, AV.subs, AV.shut, AV.scal, AV.scals, evBuildSlice, elemsOf, zeroOK, evAppend, rowOf, noref, isRef, small, import_, AV.any, AV.anys, isPtr, finV, rename, noPtr, isBad, AV.isUndef, St.setRow, AV.shutV, rebuild, isAggV, evBuild, fillCells, evCutOwn, dedup, nodupB, idx, AV.rows, AV.rowss, AV.mapO, AV.mapOs, firstRegion, gc, keptBoxes, keptRows, renameB, AV.boxes, AV.boxess, SN, evCutRow, Int.reduceToNat, id_eq, Int.reduceBEq, Int.reduceLE, Int.reduceLT, SS, one_ne2, num_ne2, TIS, MDS, wanted, numbered, plainC, plainS, evEq, eqK, evBox, evAlloc, evStore, evLoad, evFieldAddr, behind, takeVal, AV.cells, AV.isCell, ofCells, ofCell, Value.cells, Nat.reduceAdd, Nat.reduceEqDiff, Nat.reduceLT, Nat.reduceLeDiff, Nat.reduceMul, Nat.reduceSub, reduceIte]
    | true =>
      rw [hB, hyq hB] at c2
      simp -implicitDefEqProofs only [QS, QN, QG, QO, Go.Proofs.Try.f50, enc_Policy, c1, c2, c3, c4, cj, hsc, hsq, hsj, plan_50_3, ifEv_bool, gate_bool, pick_bool, if_false, if_true, back_rowsN, rows_encR, boxes_encR, ↓isCell_encR, len_rowsN, dedup_rowsN, nodup_rowsN, all_rowsN, any_encR, mapO_encR, ref_encR, scal_encR, small_rowsN, lend_encR4, imp_encR, small_rows1, SO, SH, frzO, frzE, AV.laid, AV.treeV, AV.treeC, St.laid, spent, AV.subs, AV.shut, AV.scal, AV.scals, evBuildSlice, elemsOf, zeroOK, evAppend, rowOf, noref, isRef, small, import_, AV.any, AV.anys, isPtr, finV, rename, noPtr, isBad, AV.isUndef, St.setRow, AV.shutV, rebuild, isAggV, evBuild, fillCells, evCutOwn, dedup, nodupB, idx, AV.rows, AV.rowss, AV.mapO, AV.mapOs, firstRegion, gc, keptBoxes, keptRows, renameB, AV.boxes, AV.boxess, SN, evCutRow, Int.reduceToNat, id_eq, Int.reduceBEq, Int.reduceLE, Int.reduceLT, SS, one_ne2, num_ne2, TIS, MDS, wanted, numbered, plainC, plainS, evEq, eqK, evBox, evAlloc, evStore, evLoad, evFieldAddr, behind, takeVal, AV.cells, AV.isCell, ofCells, ofCell, Value.cells, Nat.reduceAdd, Nat.reduceEqDiff, Nat.reduceLT, Nat.reduceLeDiff, Nat.reduceMul, Nat.reduceSub, reduceIte]
  | true =>
    rw [hA, hyp hA] at c1
    cases hB : compOk q a o with
    | false =>
      rw [hB, hnq hB] at c2
      simp -implicitDefEqProofs only [QS, QN, QG, QO, Go.Proofs.Try.f50, enc_Policy, c1, c2, c3, c4, cj, hsc, hsq, hsj, plan_50_3, ifEv_bool, gate_bool, pick_bool, if_false, if_true, back_rowsN, rows_encR, boxes_encR, ↓isCell_encR, len_rowsN, dedup_rowsN, nodup_rowsN, all_rowsN, any_encR, mapO_encR, ref_encR, scal_encR, small_rowsN, lend_encR4, imp_encR, small_rows1, SO, SH, frzO, frzE, AV.laid, AV.treeV, AV.treeC, St.laid, spent, AV.subs, AV.shut, AV.scal, AV.scals, evBuildSlice, elemsOf, zeroOK, evAppend, rowOf, noref, isRef, small, import_, AV.any, AV.anys, isPtr, finV, rename, noPtr, isBad, AV.isUndef, St.setRow, AV.shutV, rebuild, isAggV, evBuild, fillCells, evCutOwn, dedup, nodupB, idx, AV.rows, AV.rowss, AV.mapO, AV.mapOs, firstRegion, gc, keptBoxes, keptRows, renameB, AV.boxes, AV.boxess, SN, evCutRow, Int.reduceToNat, id_eq, Int.reduceBEq, Int.reduceLE, Int.reduceLT, SS, one_ne2, num_ne2, TIS, MDS, wanted, numbered, plainC, plainS, evEq, eqK, evBox, evAlloc, evStore, evLoad, evFieldAddr, behind, takeVal, AV.cells, AV.isCell, ofCells, ofCell, Value.cells, Nat.reduceAdd, Nat.reduceEqDiff, Nat.reduceLT, Nat.reduceLeDiff, Nat.reduceMul, Nat.reduceSub, reduceIte]
    | true =>
      rw [hB, hyq hB] at c2
      simp -implicitDefEqProofs only [Bool.true_and]
      generalize safeAtoms p q a o = at_ at *
      by_cases hn : at_.length ≤ 6
      · have hgt : decide (((at_.length : Nat) : Int) > 6) = false := decide_eq_false (by omega)
        have hle : decide (at_.length ≤ 6) = true := decide_eq_true hn
        have cb := cb hn
        have hN : 2 ^ at_.length ≤ 64 := Nat.le_trans (Nat.pow_le_pow_right (by decide) hn) (by decide)
        have c5 := fun i hi => c5 i hn hi
        rw [hle, Bool.true_and, ← anyLoopG _ _ 0]
        generalize (2 : Nat) ^ at_.length = N at *
        simp -implicitDefEqProofs only [QS, QN, QO, Go.Proofs.Try.f50, enc_Policy, c1, c2, c3, c4, cj, hsc, hsq, hsj, hgt, plan_50_3, ifEv_bool, gate_bool, pick_bool, if_false, if_true, back_rowsN, rows_encR, boxes_encR, ↓isCell_encR, len_rowsN, dedup_rowsN, nodup_rowsN, all_rowsN, any_encR, mapO_encR, ref_encR, scal_encR, small_rowsN, lend_encR4, imp_encR, small_rows1, SO, SH, frzO, frzE, AV.laid, AV.treeV, AV.treeC, St.laid, spent, AV.subs, AV.shut, AV.scal, AV.scals, evBuildSlice, elemsOf, zeroOK, evAppend, rowOf, noref, isRef, small, import_, AV.any, AV.anys, isPtr, finV, rename, noPtr, isBad, AV.isUndef, St.setRow, AV.shutV, rebuild, isAggV, evBuild, fillCells, evCutOwn, dedup, nodupB, idx, AV.rows, AV.rowss, AV.mapO, AV.mapOs, SN, evCutRow, Int.reduceToNat, id_eq, Int.reduceBEq, Int.reduceLE, Int.reduceLT, SS, one_ne2, num_ne2, TIS, MDS, wanted, numbered, plainC, plainS, evEq, eqK, evBox, evAlloc, evStore, evLoad, evFieldAddr, behind, takeVal, AV.cells, AV.isCell, ofCells, ofCell, Value.cells, Nat.reduceAdd, Nat.reduceEqDiff, Nat.reduceLT, Nat.reduceLeDiff, Nat.reduceMul, Nat.reduceSub, reduceIte]
        rw [ev_loop]
        refine loop_list (Q := fun (g : Bool) z => thenEnd E.P _ _ 0 (thenEv E _ _ _ _ _ (outOf 0 z)) = some (.bool (!g), [])) (List.range N) (anyStepG fun i => polB p a o at_ (valsOf at_.length i) && !polB q a o at_ (valsOf at_.length i)) (fun _ => false)
          (fun i _ => { sl := [(2, .int .i64 a), (3, .int .i64 o), (4, .ptr 0 0), (5, .ptr 1 0), (13, .own 0 false 45 4 (at_.map (Cond.enc true))), (14, .int .i64 (i : Nat))], bx := [(0, [.int .i64 p.version, .sl true (p.rules.map (Rule.enc true))]), (1, [.int .i64 q.version, .sl true (q.rules.map (Rule.enc true))])], nx := 3, nt := 76 })
          (fun _ _ => True) () ?_ ?_ ?_ trivial ?_
        · intro _ _
          simp -implicitDefEqProofs only [QS, QN, QG, QO, List.length_range, cb, SO, SH, frzO, frzE, AV.laid, AV.treeV, AV.treeC, St.laid, spent, AV.subs, AV.shut, AV.scal, AV.scals, evBuildSlice, elemsOf, zeroOK, evAppend, rowOf, noref, isRef, small, import_, AV.any, AV.anys, isPtr, finV, rename, noPtr, isBad, AV.isUndef, St.setRow, AV.shutV, rebuild, isAggV, evBuild, fillCells, evCutOwn, dedup, nodupB, idx, AV.rows, AV.rowss, AV.mapO, AV.mapOs, firstRegion, gc, keptBoxes, keptRows, renameB, AV.boxes, AV.boxess, leaf_some, isNormal, ifEv_bool, gate_bool, gateP_bool, gateQ_bool, pick_bool, SN, evCutRow, Int.reduceToNat, id_eq, Int.reduceBEq, Int.reduceLE, Int.reduceLT, SS, one_ne2, num_ne2, TIS, MDS, wanted, numbered, plainC, plainS, evEq, eqK, evBox, evAlloc, evStore, evLoad, evFieldAddr, behind, takeVal, AV.cells, AV.isCell, ofCells, ofCell, Value.cells, Nat.reduceAdd, Nat.reduceEqDiff, Nat.reduceLT, Nat.reduceLeDiff, Nat.reduceMul, Nat.reduceSub, reduceIte]
          repeat' (split <;> (rename_i h; (try simp -implicitDefEqProofs only [Bool.not_eq_true', Bool.not_eq_false', decide_eq_true_eq, decide_eq_false_iff_not] at h); (try simp -implicitDefEqProofs only [QS, QN, QG, QO, *, List.length_range, cb, SO, SH, frzO, frzE, AV.laid, AV.treeV, AV.treeC, St.laid, spent, AV.subs, AV.shut, AV.scal, AV.scals, evBuildSlice, elemsOf, zeroOK, evAppend, rowOf, noref, isRef, small, import_, AV.any, AV.anys, isPtr, finV, rename, noPtr, isBad, AV.isUndef, St.setRow, AV.shutV, rebuild, isAggV, evBuild, fillCells, evCutOwn, dedup, nodupB, idx, AV.rows, AV.rowss, AV.mapO, AV.mapOs, firstRegion, gc, keptBoxes, keptRows, renameB, AV.boxes, AV.boxess, leaf_some, isNormal, ifEv_bool, gate_bool, gateP_bool, gateQ_bool, pick_bool, SN, evCutRow, Int.reduceToNat, id_eq, Int.reduceBEq, Int.reduceLE, Int.reduceLT, SS, one_ne2, num_ne2, TIS, MDS, wanted, numbered, plainC, plainS, evEq, eqK, evBox, evAlloc, evStore, evLoad, evFieldAddr, behind, takeVal, AV.cells, AV.isCell, ofCells, ofCell, Value.cells, Nat.reduceAdd, Nat.reduceEqDiff, Nat.reduceLT, Nat.reduceLeDiff, Nat.reduceMul, Nat.reduceSub, reduceIte])))
        · intro pre x r' _ hs' _
          obtain ⟨hxe, hpr⟩ := range_at hs'
          have h5 : ((pre.length : Int) < (N : Int)) = True := eq_true (by omega)
          have hw1 : IntKind.i64.wrap ((pre.length : Int) + 1) = ((pre.length + 1 : Nat) : Int) := by rw [IntWalk.i64_in _ (by omega)]; omega
          clear hs'
          subst hxe
          have c8 := c5 pre.length (by omega)
          have c9 := c6 (valsOf at_.length pre.length)
          have c10 := c7 (valsOf at_.length pre.length)
          have hst : anyStepG (fun i => polB p a o at_ (valsOf at_.length i) && !polB q a o at_ (valsOf at_.length i)) pre.length pre.length () = if (polB p a o at_ (valsOf at_.length pre.length) && !polB q a o at_ (valsOf at_.length pre.length)) = true then .inl true else .inr () := rfl
          clear c1 c2 c3 c4 c5 c6 c7 cj
          generalize polB p a o at_ (valsOf at_.length pre.length) = e1 at *
          generalize polB q a o at_ (valsOf at_.length pre.length) = e2 at *
          cases e1 <;> cases e2 <;> simp -implicitDefEqProofs only [Bool.and_self, Bool.and_true, Bool.and_false, Bool.true_and, Bool.false_and, Bool.not_true, Bool.not_false, Bool.false_eq_true, if_false, if_true] at hst
          all_goals
            simp -implicitDefEqProofs only [QS, QN, QG, QO, h5, hw1, cb, c8, c9, c10, hst, scals_bools2, hsj, if_false, if_true, SO, SH, frzO, frzE, AV.laid, AV.treeV, AV.treeC, St.laid, spent, AV.subs, AV.shut, AV.scal, AV.scals, evBuildSlice, elemsOf, zeroOK, evAppend, rowOf, noref, isRef, small, import_, AV.any, AV.anys, isPtr, finV, rename, noPtr, isBad, AV.isUndef, St.setRow, AV.shutV, rebuild, isAggV, evBuild, fillCells, evCutOwn, dedup, nodupB, idx, AV.rows, AV.rowss, AV.mapO, AV.mapOs, firstRegion, gc, keptBoxes, keptRows, renameB, AV.boxes, AV.boxess, keep_50_7, leaf_some, isNormal, ifEv_bool, gate_bool, gateP_bool, gateQ_bool, pick_bool, SN, evCutRow, Int.reduceToNat, id_eq, Int.reduceBEq, Int.reduceLE, Int.reduceLT, SS, one_ne2, num_ne2, TIS, MDS, wanted, numbered, plainC, plainS, evEq, eqK, evBox, evAlloc, evStore, evLoad, evFieldAddr, behind, takeVal, AV.cells, AV.isCell, ofCells, ofCell, Value.cells, Nat.reduceAdd, Nat.reduceEqDiff, Nat.reduceLT, Nat.reduceLeDiff, Nat.reduceMul, Nat.reduceSub, reduceIte]
            repeat' (split <;> (rename_i h; (try simp -implicitDefEqProofs only [Bool.not_eq_true', Bool.not_eq_false', decide_eq_true_eq, decide_eq_false_iff_not] at h); (try simp -implicitDefEqProofs only [QS, QN, QG, QO, *, h5, hw1, cb, c8, c9, c10, hst, scals_bools2, hsj, if_false, if_true, SO, SH, frzO, frzE, AV.laid, AV.treeV, AV.treeC, St.laid, spent, AV.subs, AV.shut, AV.scal, AV.scals, evBuildSlice, elemsOf, zeroOK, evAppend, rowOf, noref, isRef, small, import_, AV.any, AV.anys, isPtr, finV, rename, noPtr, isBad, AV.isUndef, St.setRow, AV.shutV, rebuild, isAggV, evBuild, fillCells, evCutOwn, dedup, nodupB, idx, AV.rows, AV.rowss, AV.mapO, AV.mapOs, firstRegion, gc, keptBoxes, keptRows, renameB, AV.boxes, AV.boxess, keep_50_7, leaf_some, isNormal, ifEv_bool, gate_bool, gateP_bool, gateQ_bool, pick_bool, SN, evCutRow, Int.reduceToNat, id_eq, Int.reduceBEq, Int.reduceLE, Int.reduceLT, SS, one_ne2, num_ne2, TIS, MDS, wanted, numbered, plainC, plainS, evEq, eqK, evBox, evAlloc, evStore, evLoad, evFieldAddr, behind, takeVal, AV.cells, AV.isCell, ofCells, ofCell, Value.cells, Nat.reduceAdd, Nat.reduceEqDiff, Nat.reduceLT, Nat.reduceLeDiff, Nat.reduceMul, Nat.reduceSub, reduceIte])))
        · simp; omega
        · simp -implicitDefEqProofs only [firstRegion]
          rw [keep_50_7]
          simp -implicitDefEqProofs only [QS, QN, QG, QO, back_rowsN, rows_encR, boxes_encR, ↓isCell_encR, len_rowsN, dedup_rowsN, nodup_rowsN, all_rowsN, any_encR, mapO_encR, ref_encR, scal_encR, small_rowsN, lend_encR4, SN, evCutRow, Int.reduceToNat, id_eq, Int.reduceBEq, Int.reduceLE, Int.reduceLT, SO, SH, frzO, frzE, AV.laid, AV.treeV, AV.treeC, St.laid, spent, AV.subs, AV.shut, AV.scal, AV.scals, evBuildSlice, elemsOf, zeroOK, evAppend, rowOf, noref, isRef, small, import_, AV.any, AV.anys, isPtr, finV, rename, noPtr, isBad, AV.isUndef, St.setRow, AV.shutV, rebuild, isAggV, evBuild, fillCells, evCutOwn, dedup, nodupB, idx, AV.rows, AV.rowss, AV.mapO, AV.mapOs, firstRegion, gc, keptBoxes, keptRows, renameB, AV.boxes, AV.boxess, SS, one_ne2, num_ne2, TIS, MDS, wanted, numbered, plainC, plainS, evEq, eqK, evBox, evAlloc, evStore, evLoad, evFieldAddr, behind, takeVal, AV.cells, AV.isCell, ofCells, ofCell, Value.cells, Nat.reduceAdd, Nat.reduceEqDiff, Nat.reduceLT, Nat.reduceLeDiff, Nat.reduceMul, Nat.reduceSub, reduceIte]
      · have hgt : decide (((at_.length : Nat) : Int) > 6) = true := decide_eq_true (by omega)
        have hle : decide (at_.length ≤ 6) = false := decide_eq_false (by omega)
        rw [hle, Bool.false_and]
        simp -implicitDefEqProofs only [QS, QN, QG, QO, Go.Proofs.Try.f50, enc_Policy, c1, c2, c3, c4, cj, hsc, hsq, hsj, hgt, plan_50_3, ifEv_bool, gate_bool, pick_bool, if_false, if_true, back_rowsN, rows_encR, boxes_encR, ↓isCell_encR, len_rowsN, dedup_rowsN, nodup_rowsN, all_rowsN, any_encR, mapO_encR, ref_encR, scal_encR, small_rowsN, lend_encR4, imp_encR, small_rows1, SO, SH, frzO, frzE, AV.laid, AV.treeV, AV.treeC, St.laid, spent, AV.subs, AV.shut, AV.scal, AV.scals, evBuildSlice, elemsOf, zeroOK, evAppend, rowOf, noref, isRef, small, import_, AV.any, AV.anys, isPtr, finV, rename, noPtr, isBad, AV.isUndef, St.setRow, AV.shutV, rebuild, isAggV, evBuild, fillCells, evCutOwn, dedup, nodupB, idx, AV.rows, AV.rowss, AV.mapO, AV.mapOs, firstRegion, gc, keptBoxes, keptRows, renameB, AV.boxes, AV.boxess, SN, evCutRow, Int.reduceToNat, id_eq, Int.reduceBEq, Int.reduceLE, Int.reduceLT, SS, one_ne2, num_ne2, TIS, MDS, wanted, numbered, plainC, plainS, evEq, eqK, evBox, evAlloc, evStore, evLoad, evFieldAddr, behind, takeVal, AV.cells, AV.isCell, ofCells, ofCell, Value.cells, Nat.reduceAdd, Nat.reduceEqDiff, Nat.reduceLT, Nat.reduceLeDiff, Nat.reduceMul, Nat.reduceSub, reduceIte]
end Go.Proofs.Ytbajieiodabdgaa.Flat
