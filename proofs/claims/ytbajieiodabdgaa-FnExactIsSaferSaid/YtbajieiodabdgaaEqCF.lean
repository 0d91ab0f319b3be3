/-
CompileFor.
-/
import Derived.Test.YtbajieiodabdgaaEqCC
import Derived.Test.YtbajieiodabdgaaEqP
import Derived.Test.YtbajieiodabdgaaEqFB
set_option linter.unusedVariables false
set_option linter.unusedSimpArgs false
set_option maxRecDepth 10000
namespace Go.Proofs.Ytbajieiodabdgaa.Flat
noncomputable def polB (p : Policy) (a o : Int) (s : List Cond) (v : List Bool) : Bool := polBy (ruleBy a o s v) p.rules
noncomputable def compTab (p : Policy) (a o : Int) (s : List Cond) (i : Nat) : List Bool := (List.range i).map fun j => polB p a o s (valsOf s.length j)
noncomputable def compOk (p : Policy) (a o : Int) : Bool := isPolicy p && decide ((atomsOf p a o).length ≤ 6)
noncomputable def compD (p : Policy) (a o : Int) : Diagram := fromTable ((atomsOf p a o).length : Nat) (compTab p a o (atomsOf p a o) (2 ^ (atomsOf p a o).length))
/-- What CompileFor hands back. -/
noncomputable def compAV (p : Policy) (a o : Int) : AV :=
  if compOk p a o = true then .agg [.own 0 false 45 4 ((atomsOf p a o).map (Cond.enc true)), .int .i64 (compD p a o).atoms, encR 1 (compD p a o).nodes, .int .i64 (compD p a o).root, .int .i64 p.version]
  else .agg [.nils, .int .i64 0, .nils, .int .i64 0, .int .i64 0]
theorem compTab_succ (p : Policy) (a o : Int) (s : List Cond) (i : Nat) : compTab p a o s (i + 1) = compTab p a o s i ++ [polB p a o s (valsOf s.length i)] := by simp [compTab, List.range_succ]
theorem compTab_len (p : Policy) (a o : Int) (s : List Cond) (i : Nat) : (compTab p a o s i).length = i := by simp [compTab]
set_option maxHeartbeats 4000000 in
theorem r_impl_CompileFor (k : Nat) (hk : 884940186000000 + 60 ≤ k) (p : Policy) (hp0 : p.w ≤ 268435456) (a o : Int) :
    run E noExt k 53 [p.enc true, .int .i64 a, .int .i64 o] [] = some (.tup [compAV p a o, .bool (compOk p a o)], []) := by
  have hp : p.w ≤ 1099511627776 := by omega
  have hal := atomsOf_len p a o
  have hav := atomsOf_leaves p a o
  have hsc := scals_leaves hav
  have c1 := r_impl_IsPolicy (fl := true) (k - 1) (by omega) p hp
  have c2 := r_impl_AtomsFor (fl := true) (k - 1) p (by omega) hp a o
  have c3 := r_impl_valuesOf (k - 1) (by omega) (atomsOf p a o).length
  have c4 := fun v => r_impl_PolicyBy (fl := true) (f2 := true) (f3 := true) (k - 1) (by omega) p a o (atomsOf p a o) v hp (by rw [wl_leaves hav]; omega)
  have c5 := fun t ht => r_impl_FromTable (fl := true) (k - 1) (by omega) ((atomsOf p a o).length : Nat) t ht
  have e4 : ∀ v, polBy (ruleBy a o (atomsOf p a o) v) p.rules = polB p a o (atomsOf p a o) v := fun _ => rfl
  simp -implicitDefEqProofs only [e4] at c4
  have hCok : compOk p a o = (isPolicy p && decide ((atomsOf p a o).length ≤ 6)) := rfl
  have hCD : compD p a o = fromTable ((atomsOf p a o).length : Nat) (compTab p a o (atomsOf p a o) (2 ^ (atomsOf p a o).length)) := rfl
  have hT := compTab_succ p a o (atomsOf p a o)
  have hTl := compTab_len p a o (atomsOf p a o)
  have hT0 : compTab p a o (atomsOf p a o) 0 = [] := rfl
  unfold compAV
  rw [hCok, hCD]
  clear hCok hCD e4
  obtain ⟨k, rfl⟩ : ∃ j, k = j + 1 := ⟨k - 1, by omega⟩
  rw [run_succ rfl rfl, body_eq (nt := 57) (fn := Go.Proofs.Try.f53) (by kernel_rfl) rfl rfl rfl rfl rfl rfl rfl rfl]
  simp -implicitDefEqProofs only [Nat.add_sub_cancel, enc_Policy] at c1 c2 c3 c4 c5
  cases hP : isPolicy p with
  | false =>
    rw [hP] at c1
    simp -implicitDefEqProofs only [QS, QN, QG, QO, Go.Proofs.Try.f53, enc_Policy, c1, ifEv_bool, if_false, if_true, SO, SH, frzO, frzE, AV.laid, AV.treeV, AV.treeC, St.laid, spent, AV.subs, AV.shut, AV.scal, AV.scals, evBuildSlice, elemsOf, zeroOK, evAppend, rowOf, noref, isRef, small, import_, AV.any, AV.anys, isPtr, finV, rename, noPtr, isBad, AV.isUndef, St.setRow, AV.shutV, rebuild, isAggV, evBuild, fillCells, evCutOwn, dedup, nodupB, idx, AV.rows, AV.rowss, AV.mapO, AV.mapOs, firstRegion, gc, keptBoxes, keptRows, renameB, AV.boxes, AV.boxess, SN, evCutRow, Int.reduceToNat, id_eq, Int.reduceBEq, Int.reduceLE, Int.reduceLT, SS, one_ne2, num_ne2, TIS, MDS, wanted, numbered, plainC, plainS, evEq, eqK, evBox, evAlloc, evStore, evLoad, evFieldAddr, behind, takeVal, AV.cells, AV.isCell, ofCells, ofCell, Value.cells, Nat.reduceAdd, Nat.reduceEqDiff, Nat.reduceLT, Nat.reduceLeDiff, Nat.reduceMul, Nat.reduceSub, reduceIte]
  | true =>
    rw [hP] at c1
    simp -implicitDefEqProofs only [Bool.true_and]
    generalize atomsOf p a o = at_ at *
    by_cases hn : at_.length ≤ 6
    · have hgt : decide (((at_.length : Nat) : Int) > 6) = false := decide_eq_false (by omega)
      have hle : decide (at_.length ≤ 6) = true := decide_eq_true hn
      have hsl : ∀ t, evBin2 E.P .shl t (.int .i64 1) (.int .i64 ((at_.length : Nat) : Int)) = some (.int .i64 ((2 ^ at_.length : Nat) : Int)) := fun t => by
        have h1 : (((at_.length : Nat) : Int) < 0) = False := eq_false (by omega)
        simp -implicitDefEqProofs only [evBin2, evBin, evShift, h1, if_false, shl_small at_.length (by omega)]
      have hN : 2 ^ at_.length ≤ 64 := Nat.le_trans (Nat.pow_le_pow_right (by decide) hn) (by decide)
      have c3 := fun i hi => c3 i hn hi
      have c6 := c5 (compTab p a o at_ (2 ^ at_.length)) (by rw [hTl]; omega)
      clear c5
      generalize hNN : (2 : Nat) ^ at_.length = N at *
      have hok : fromOk ((at_.length : Nat) : Int) (compTab p a o at_ N) = true := by
        unfold fromOk
        rw [hTl, Int.toNat_natCast, hNN]
        simp [inR]
        omega
      rw [hok] at c6
      simp -implicitDefEqProofs only [hle, if_true]
      generalize fromTable ((at_.length : Nat) : Int) (compTab p a o at_ N) = d at *
      simp -implicitDefEqProofs only [QS, QN, QO, Go.Proofs.Try.f53, enc_Policy, c1, c2, hsc, hgt, hsl, ifEv_bool, if_false, if_true, SO, SH, frzO, frzE, AV.laid, AV.treeV, AV.treeC, St.laid, spent, AV.subs, AV.shut, AV.scal, AV.scals, evBuildSlice, elemsOf, zeroOK, evAppend, rowOf, noref, isRef, small, import_, AV.any, AV.anys, isPtr, finV, rename, noPtr, isBad, AV.isUndef, St.setRow, AV.shutV, rebuild, isAggV, evBuild, fillCells, evCutOwn, dedup, nodupB, idx, AV.rows, AV.rowss, AV.mapO, AV.mapOs, SN, evCutRow, Int.reduceToNat, id_eq, Int.reduceBEq, Int.reduceLE, Int.reduceLT, SS, one_ne2, num_ne2, TIS, MDS, wanted, numbered, plainC, plainS, evEq, eqK, evBox, evAlloc, evStore, evLoad, evFieldAddr, behind, takeVal, AV.cells, AV.isCell, ofCells, ofCell, Value.cells, Nat.reduceAdd, Nat.reduceEqDiff, Nat.reduceLT, Nat.reduceLeDiff, Nat.reduceMul, Nat.reduceSub, reduceIte]
      rw [ev_loop]
      refine Eq.trans (loop_list (Q := fun (_ : Unit) z => thenEnd E.P [] _ 0 (thenEv E _ _ _ _ _ (outOf 0 z)) = some (.tup [.agg [.own 0 false 45 4 (at_.map (Cond.enc true)), .int .i64 d.atoms, encR 1 d.nodes, .int .i64 d.root, .int .i64 p.version], .bool true], [])) (List.range N) (fun _ _ _ => .inr ()) id
        (fun i _ => { sl := [(1, .int .i64 a), (2, .int .i64 o), (3, .ptr 0 0), (6, .ptr 1 0), (8, .own 0 false 45 4 (at_.map (Cond.enc true))), (9, .own 1 false 4 1 ((compTab p a o at_ i).map AV.bool)), (28, .int .i64 (N : Nat)), (29, .int .i64 (i : Nat))], bx := [(0, [.int .i64 p.version, .sl true (p.rules.map (Rule.enc true))]), (1, [.nils, .int .i64 0, .nils, .int .i64 0, .int .i64 0])], nx := 4, nt := 57 })
        (fun _ _ => True) () ?_ ?_ (by simp; omega) trivial ?_) ?_
      · intro _ _
        rcases Classical.em (d.nodes = []) with h | h
        · have e0 : d.encN = .agg [.int .i64 d.atoms, .nils, .int .i64 d.root] := by unfold Diagram.encN; rw [h, encR_nil]
          have e1 : encR 1 d.nodes = .nils := by rw [h, encR_nil]
          rw [e0] at c6
          simp -implicitDefEqProofs only [QS, QN, QG, QO, List.length_range, c6, e1, hsc, scals_bools2, rowss_bools, boxess_bools, mapOs_bools, SO, SH, frzO, frzE, AV.laid, AV.treeV, AV.treeC, St.laid, spent, AV.subs, AV.shut, AV.scal, AV.scals, evBuildSlice, elemsOf, zeroOK, evAppend, rowOf, noref, isRef, small, import_, AV.any, AV.anys, isPtr, finV, rename, noPtr, isBad, AV.isUndef, St.setRow, AV.shutV, rebuild, isAggV, evBuild, fillCells, evCutOwn, dedup, nodupB, idx, AV.rows, AV.rowss, AV.mapO, AV.mapOs, firstRegion, gc, keptBoxes, keptRows, renameB, AV.boxes, AV.boxess, leaf_some, isNormal, ifEv_bool, gate_bool, gateP_bool, gateQ_bool, pick_bool, SN, evCutRow, Int.reduceToNat, id_eq, Int.reduceBEq, Int.reduceLE, Int.reduceLT, SS, one_ne2, num_ne2, TIS, MDS, wanted, numbered, plainC, plainS, evEq, eqK, evBox, evAlloc, evStore, evLoad, evFieldAddr, behind, takeVal, AV.cells, AV.isCell, ofCells, ofCell, Value.cells, Nat.reduceAdd, Nat.reduceEqDiff, Nat.reduceLT, Nat.reduceLeDiff, Nat.reduceMul, Nat.reduceSub, reduceIte]
          repeat' (split <;> (rename_i h; (try simp -implicitDefEqProofs only [Bool.not_eq_true', Bool.not_eq_false', decide_eq_true_eq, decide_eq_false_iff_not] at h); (try simp -implicitDefEqProofs only [QS, QN, QG, QO, *, List.length_range, c6, e1, hsc, scals_bools2, rowss_bools, boxess_bools, mapOs_bools, SO, SH, frzO, frzE, AV.laid, AV.treeV, AV.treeC, St.laid, spent, AV.subs, AV.shut, AV.scal, AV.scals, evBuildSlice, elemsOf, zeroOK, evAppend, rowOf, noref, isRef, small, import_, AV.any, AV.anys, isPtr, finV, rename, noPtr, isBad, AV.isUndef, St.setRow, AV.shutV, rebuild, isAggV, evBuild, fillCells, evCutOwn, dedup, nodupB, idx, AV.rows, AV.rowss, AV.mapO, AV.mapOs, firstRegion, gc, keptBoxes, keptRows, renameB, AV.boxes, AV.boxess, leaf_some, isNormal, ifEv_bool, gate_bool, gateP_bool, gateQ_bool, pick_bool, SN, evCutRow, Int.reduceToNat, id_eq, Int.reduceBEq, Int.reduceLE, Int.reduceLT, SS, one_ne2, num_ne2, TIS, MDS, wanted, numbered, plainC, plainS, evEq, eqK, evBox, evAlloc, evStore, evLoad, evFieldAddr, behind, takeVal, AV.cells, AV.isCell, ofCells, ofCell, Value.cells, Nat.reduceAdd, Nat.reduceEqDiff, Nat.reduceLT, Nat.reduceLeDiff, Nat.reduceMul, Nat.reduceSub, reduceIte])))
        · have e0 : d.encN = .agg [.int .i64 d.atoms, .own 0 false 153 3 (d.nodes.map (Choice.enc true)), .int .i64 d.root] := by unfold Diagram.encN; rw [encR_ne h]
          have e1 := encR_ne (id := 1) h
          rw [e0] at c6
          simp -implicitDefEqProofs only [QS, QN, QG, QO, List.length_range, c6, e1, hsc, tscals_Choice, scals_bools2, rowss_bools, boxess_bools, mapOs_bools, SO, SH, frzO, frzE, AV.laid, AV.treeV, AV.treeC, St.laid, spent, AV.subs, AV.shut, AV.scal, AV.scals, evBuildSlice, elemsOf, zeroOK, evAppend, rowOf, noref, isRef, small, import_, AV.any, AV.anys, isPtr, finV, rename, noPtr, isBad, AV.isUndef, St.setRow, AV.shutV, rebuild, isAggV, evBuild, fillCells, evCutOwn, dedup, nodupB, idx, AV.rows, AV.rowss, AV.mapO, AV.mapOs, firstRegion, gc, keptBoxes, keptRows, renameB, AV.boxes, AV.boxess, leaf_some, isNormal, ifEv_bool, gate_bool, gateP_bool, gateQ_bool, pick_bool, SN, evCutRow, Int.reduceToNat, id_eq, Int.reduceBEq, Int.reduceLE, Int.reduceLT, SS, one_ne2, num_ne2, TIS, MDS, wanted, numbered, plainC, plainS, evEq, eqK, evBox, evAlloc, evStore, evLoad, evFieldAddr, behind, takeVal, AV.cells, AV.isCell, ofCells, ofCell, Value.cells, Nat.reduceAdd, Nat.reduceEqDiff, Nat.reduceLT, Nat.reduceLeDiff, Nat.reduceMul, Nat.reduceSub, reduceIte]
          repeat' (split <;> (rename_i h; (try simp -implicitDefEqProofs only [Bool.not_eq_true', Bool.not_eq_false', decide_eq_true_eq, decide_eq_false_iff_not] at h); (try simp -implicitDefEqProofs only [QS, QN, QG, QO, *, List.length_range, c6, e1, hsc, tscals_Choice, scals_bools2, rowss_bools, boxess_bools, mapOs_bools, SO, SH, frzO, frzE, AV.laid, AV.treeV, AV.treeC, St.laid, spent, AV.subs, AV.shut, AV.scal, AV.scals, evBuildSlice, elemsOf, zeroOK, evAppend, rowOf, noref, isRef, small, import_, AV.any, AV.anys, isPtr, finV, rename, noPtr, isBad, AV.isUndef, St.setRow, AV.shutV, rebuild, isAggV, evBuild, fillCells, evCutOwn, dedup, nodupB, idx, AV.rows, AV.rowss, AV.mapO, AV.mapOs, firstRegion, gc, keptBoxes, keptRows, renameB, AV.boxes, AV.boxess, leaf_some, isNormal, ifEv_bool, gate_bool, gateP_bool, gateQ_bool, pick_bool, SN, evCutRow, Int.reduceToNat, id_eq, Int.reduceBEq, Int.reduceLE, Int.reduceLT, SS, one_ne2, num_ne2, TIS, MDS, wanted, numbered, plainC, plainS, evEq, eqK, evBox, evAlloc, evStore, evLoad, evFieldAddr, behind, takeVal, AV.cells, AV.isCell, ofCells, ofCell, Value.cells, Nat.reduceAdd, Nat.reduceEqDiff, Nat.reduceLT, Nat.reduceLeDiff, Nat.reduceMul, Nat.reduceSub, reduceIte])))
      · intro pre x r' _ hs' _
        obtain ⟨hxe, hpl0⟩ := range_at hs'
        have h5 : ((pre.length : Int) < (N : Int)) = True := eq_true (by omega)
        have hw1 : IntKind.i64.wrap ((pre.length : Int) + 1) = ((pre.length + 1 : Nat) : Int) := by rw [IntWalk.i64_in _ (by omega)]; omega
        clear hs'
        subst hxe
        have c7 := c3 pre.length (by omega)
        have c8 := c4 (valsOf at_.length pre.length)
        have hv := hT pre.length
        have hl := hTl pre.length
        have hm1 : (compTab p a o at_ pre.length).length + 1 ≤ 140737488355328 := by omega
        have hm2 : (compTab p a o at_ pre.length).length + 1 ≤ 9223372036854775807 := by omega
        have hm9 : (compTab p a o at_ pre.length).length ≤ 9223372036854775806 := by omega
        have hm8 : (compTab p a o at_ pre.length).length ≤ 140737488355327 := by omega
        generalize polB p a o at_ (valsOf at_.length pre.length) = v at c8 hv
        have hpl : plains [AV.bool v] = true := rfl
        simp -implicitDefEqProofs only [QS, QN, QG, QO, h5, hw1, c7, c8, hv, hm1, hm2, hm8, hm9, hpl, hsc, Nat.mul_one, List.map_append, scals_bools2, plains_bools2, rowss_bools, boxess_bools, mapOs_bools, plan_53_9, SO, SH, frzO, frzE, AV.laid, AV.treeV, AV.treeC, St.laid, spent, AV.subs, AV.shut, AV.scal, AV.scals, evBuildSlice, elemsOf, zeroOK, evAppend, rowOf, noref, isRef, small, import_, AV.any, AV.anys, isPtr, finV, rename, noPtr, isBad, AV.isUndef, St.setRow, AV.shutV, rebuild, isAggV, evBuild, fillCells, evCutOwn, dedup, nodupB, idx, AV.rows, AV.rowss, AV.mapO, AV.mapOs, firstRegion, gc, keptBoxes, keptRows, renameB, AV.boxes, AV.boxess, keep_53_7, leaf_some, isNormal, ifEv_bool, gate_bool, gateP_bool, gateQ_bool, pick_bool, SN, evCutRow, Int.reduceToNat, id_eq, Int.reduceBEq, Int.reduceLE, Int.reduceLT, SS, one_ne2, num_ne2, TIS, MDS, wanted, numbered, plainC, plainS, evEq, eqK, evBox, evAlloc, evStore, evLoad, evFieldAddr, behind, takeVal, AV.cells, AV.isCell, ofCells, ofCell, Value.cells, Nat.reduceAdd, Nat.reduceEqDiff, Nat.reduceLT, Nat.reduceLeDiff, Nat.reduceMul, Nat.reduceSub, reduceIte]
        repeat' (split <;> (rename_i h; (try simp -implicitDefEqProofs only [Bool.not_eq_true', Bool.not_eq_false', decide_eq_true_eq, decide_eq_false_iff_not] at h); (try simp -implicitDefEqProofs only [QS, QN, QG, QO, *, h5, hw1, c7, c8, hv, hm1, hm2, hm8, hm9, hpl, hsc, Nat.mul_one, List.map_append, scals_bools2, plains_bools2, rowss_bools, boxess_bools, mapOs_bools, plan_53_9, SO, SH, frzO, frzE, AV.laid, AV.treeV, AV.treeC, St.laid, spent, AV.subs, AV.shut, AV.scal, AV.scals, evBuildSlice, elemsOf, zeroOK, evAppend, rowOf, noref, isRef, small, import_, AV.any, AV.anys, isPtr, finV, rename, noPtr, isBad, AV.isUndef, St.setRow, AV.shutV, rebuild, isAggV, evBuild, fillCells, evCutOwn, dedup, nodupB, idx, AV.rows, AV.rowss, AV.mapO, AV.mapOs, firstRegion, gc, keptBoxes, keptRows, renameB, AV.boxes, AV.boxess, keep_53_7, leaf_some, isNormal, ifEv_bool, gate_bool, gateP_bool, gateQ_bool, pick_bool, SN, evCutRow, Int.reduceToNat, id_eq, Int.reduceBEq, Int.reduceLE, Int.reduceLT, SS, one_ne2, num_ne2, TIS, MDS, wanted, numbered, plainC, plainS, evEq, eqK, evBox, evAlloc, evStore, evLoad, evFieldAddr, behind, takeVal, AV.cells, AV.isCell, ofCells, ofCell, Value.cells, Nat.reduceAdd, Nat.reduceEqDiff, Nat.reduceLT, Nat.reduceLeDiff, Nat.reduceMul, Nat.reduceSub, reduceIte])))
      · simp -implicitDefEqProofs only [firstRegion]
        rw [keep_53_7]
        simp -implicitDefEqProofs only [QS, QN, QG, QO, hT0, SN, evCutRow, Int.reduceToNat, id_eq, Int.reduceBEq, Int.reduceLE, Int.reduceLT, SO, SH, frzO, frzE, AV.laid, AV.treeV, AV.treeC, St.laid, spent, AV.subs, AV.shut, AV.scal, AV.scals, evBuildSlice, elemsOf, zeroOK, evAppend, rowOf, noref, isRef, small, import_, AV.any, AV.anys, isPtr, finV, rename, noPtr, isBad, AV.isUndef, St.setRow, AV.shutV, rebuild, isAggV, evBuild, fillCells, evCutOwn, dedup, nodupB, idx, AV.rows, AV.rowss, AV.mapO, AV.mapOs, firstRegion, gc, keptBoxes, keptRows, renameB, AV.boxes, AV.boxess, SS, one_ne2, num_ne2, TIS, MDS, wanted, numbered, plainC, plainS, evEq, eqK, evBox, evAlloc, evStore, evLoad, evFieldAddr, behind, takeVal, AV.cells, AV.isCell, ofCells, ofCell, Value.cells, Nat.reduceAdd, Nat.reduceEqDiff, Nat.reduceLT, Nat.reduceLeDiff, Nat.reduceMul, Nat.reduceSub, reduceIte]
      · rfl
    · have hgt : decide (((at_.length : Nat) : Int) > 6) = true := decide_eq_true (by omega)
      have hle : decide (at_.length ≤ 6) = false := decide_eq_false (by omega)
      simp -implicitDefEqProofs only [QS, QN, QG, QO, Go.Proofs.Try.f53, enc_Policy, c1, c2, hsc, hgt, hle, ifEv_bool, if_false, if_true, SO, SH, frzO, frzE, AV.laid, AV.treeV, AV.treeC, St.laid, spent, AV.subs, AV.shut, AV.scal, AV.scals, evBuildSlice, elemsOf, zeroOK, evAppend, rowOf, noref, isRef, small, import_, AV.any, AV.anys, isPtr, finV, rename, noPtr, isBad, AV.isUndef, St.setRow, AV.shutV, rebuild, isAggV, evBuild, fillCells, evCutOwn, dedup, nodupB, idx, AV.rows, AV.rowss, AV.mapO, AV.mapOs, firstRegion, gc, keptBoxes, keptRows, renameB, AV.boxes, AV.boxess, SN, evCutRow, Int.reduceToNat, id_eq, Int.reduceBEq, Int.reduceLE, Int.reduceLT, SS, one_ne2, num_ne2, TIS, MDS, wanted, numbered, plainC, plainS, evEq, eqK, evBox, evAlloc, evStore, evLoad, evFieldAddr, behind, takeVal, AV.cells, AV.isCell, ofCells, ofCell, Value.cells, Nat.reduceAdd, Nat.reduceEqDiff, Nat.reduceLT, Nat.reduceLeDiff, Nat.reduceMul, Nat.reduceSub, reduceIte]
set_option maxHeartbeats 4000000 in
theorem r_spec_CompileFor (k : Nat) (hk : 884940186000000 + 60 ≤ k) (p : Policy) (hp0 : p.w ≤ 268435456) (a o : Int) :
    run E noExt k 52 [p.enc true, .int .i64 a, .int .i64 o] [] = some (.tup [compAV p a o, .bool (compOk p a o)], []) := by
  have hp : p.w ≤ 1099511627776 := by omega
  have hal := atomsOf_len p a o
  have hav := atomsOf_leaves p a o
  have hsc := scals_leaves hav
  have c1 := r_spec_IsPolicy (fl := true) (k - 1) (by omega) p hp
  have c2 := r_spec_AtomsFor (fl := true) (k - 1) p (by omega) hp a o
  have c3 := r_spec_l21Values (k - 1) (by omega) (atomsOf p a o).length
  have cb := r_spec_l21Bit (k - 1) (by omega) (atomsOf p a o).length
  have c4 := fun v => r_spec_PolicyBy (fl := true) (f2 := true) (f3 := true) (k - 1) (by omega) p a o (atomsOf p a o) v hp (by rw [wl_leaves hav]; omega)
  have c5 := fun t ht => r_spec_FromTable (fl := true) (k - 1) (by omega) ((atomsOf p a o).length : Nat) t ht
  have e4 : ∀ v, polBy (ruleBy a o (atomsOf p a o) v) p.rules = polB p a o (atomsOf p a o) v := fun _ => rfl
  simp -implicitDefEqProofs only [e4] at c4
  have hCok : compOk p a o = (isPolicy p && decide ((atomsOf p a o).length ≤ 6)) := rfl
  have hCD : compD p a o = fromTable ((atomsOf p a o).length : Nat) (compTab p a o (atomsOf p a o) (2 ^ (atomsOf p a o).length)) := rfl
  have hT := compTab_succ p a o (atomsOf p a o)
  have hTl := compTab_len p a o (atomsOf p a o)
  have hT0 : compTab p a o (atomsOf p a o) 0 = [] := rfl
  unfold compAV
  rw [hCok, hCD]
  clear hCok hCD e4
  obtain ⟨k, rfl⟩ : ∃ j, k = j + 1 := ⟨k - 1, by omega⟩
  rw [run_succ rfl rfl, body_eq (nt := 58) (fn := Go.Proofs.Try.f52) (by kernel_rfl) rfl rfl rfl rfl rfl rfl rfl rfl]
  simp -implicitDefEqProofs only [Nat.add_sub_cancel, enc_Policy] at c1 c2 c3 c4 c5 cb
  cases hP : isPolicy p with
  | false =>
    rw [hP] at c1
    simp -implicitDefEqProofs only [QS, QN, QG, QO, Go.Proofs.Try.f52, enc_Policy, c1, c2, hsc, ifEv_bool, gate_bool, pick_bool, if_false, if_true, SO, SH, frzO, frzE, AV.laid, AV.treeV, AV.treeC, St.laid, spent, AV.subs, AV.shut, AV.scal, AV.scals, evBuildSlice, elemsOf, zeroOK, evAppend, rowOf, noref, isRef, small, import_, AV.any, AV.anys, isPtr, finV, rename, noPtr, isBad, AV.isUndef, St.setRow, AV.shutV, rebuild, isAggV, evBuild, fillCells, evCutOwn, dedup, nodupB, idx, AV.rows, AV.rowss, AV.mapO, AV.mapOs, firstRegion, gc, keptBoxes, keptRows, renameB, AV.boxes, AV.boxess, SN, evCutRow, Int.reduceToNat, id_eq, Int.reduceBEq, Int.reduceLE, Int.reduceLT, SS, one_ne2, num_ne2, TIS, MDS, wanted, numbered, plainC, plainS, evEq, eqK, evBox, evAlloc, evStore, evLoad, evFieldAddr, behind, takeVal, AV.cells, AV.isCell, ofCells, ofCell, Value.cells, Nat.reduceAdd, Nat.reduceEqDiff, Nat.reduceLT, Nat.reduceLeDiff, Nat.reduceMul, Nat.reduceSub, reduceIte]
  | true =>
    rw [hP] at c1
    simp -implicitDefEqProofs only [Bool.true_and]
    generalize atomsOf p a o = at_ at *
    by_cases hn : at_.length ≤ 6
    · have hgt : decide (((at_.length : Nat) : Int) > 6) = false := decide_eq_false (by omega)
      have hle : decide (at_.length ≤ 6) = true := decide_eq_true hn
      have cb := cb hn
      have hN : 2 ^ at_.length ≤ 64 := Nat.le_trans (Nat.pow_le_pow_right (by decide) hn) (by decide)
      have c3 := fun i hi => c3 i hn hi
      have c6 := c5 (compTab p a o at_ (2 ^ at_.length)) (by rw [hTl]; omega)
      clear c5
      generalize hNN : (2 : Nat) ^ at_.length = N at *
      have hok : fromOk ((at_.length : Nat) : Int) (compTab p a o at_ N) = true := by
        unfold fromOk
        rw [hTl, Int.toNat_natCast, hNN]
        simp [inR]
        omega
      rw [hok] at c6
      simp -implicitDefEqProofs only [hle, if_true]
      generalize fromTable ((at_.length : Nat) : Int) (compTab p a o at_ N) = d at *
      simp -implicitDefEqProofs only [QS, QN, QO, Go.Proofs.Try.f52, enc_Policy, c1, c2, hsc, hgt, cb, ifEv_bool, gate_bool, pick_bool, if_false, if_true, SO, SH, frzO, frzE, AV.laid, AV.treeV, AV.treeC, St.laid, spent, AV.subs, AV.shut, AV.scal, AV.scals, evBuildSlice, elemsOf, zeroOK, evAppend, rowOf, noref, isRef, small, import_, AV.any, AV.anys, isPtr, finV, rename, noPtr, isBad, AV.isUndef, St.setRow, AV.shutV, rebuild, isAggV, evBuild, fillCells, evCutOwn, dedup, nodupB, idx, AV.rows, AV.rowss, AV.mapO, AV.mapOs, SN, evCutRow, Int.reduceToNat, id_eq, Int.reduceBEq, Int.reduceLE, Int.reduceLT, SS, one_ne2, num_ne2, TIS, MDS, wanted, numbered, plainC, plainS, evEq, eqK, evBox, evAlloc, evStore, evLoad, evFieldAddr, behind, takeVal, AV.cells, AV.isCell, ofCells, ofCell, Value.cells, Nat.reduceAdd, Nat.reduceEqDiff, Nat.reduceLT, Nat.reduceLeDiff, Nat.reduceMul, Nat.reduceSub, reduceIte]
      rw [ev_loop]
      refine Eq.trans (loop_list (Q := fun (_ : Unit) z => thenEnd E.P [] _ 0 (thenEv E _ _ _ _ _ (outOf 0 z)) = some (.tup [.agg [.own 0 false 45 4 (at_.map (Cond.enc true)), .int .i64 d.atoms, encR 1 d.nodes, .int .i64 d.root, .int .i64 p.version], .bool true], [])) (List.range N) (fun _ _ _ => .inr ()) id
        (fun i _ => { sl := [(1, .int .i64 a), (2, .int .i64 o), (3, .ptr 0 0), (6, .ptr 1 0), (8, .own 0 false 45 4 (at_.map (Cond.enc true))), (9, .own 1 false 4 1 ((compTab p a o at_ i).map AV.bool)), (10, .int .i64 (i : Nat))], bx := [(0, [.int .i64 p.version, .sl true (p.rules.map (Rule.enc true))]), (1, [.nils, .int .i64 0, .nils, .int .i64 0, .int .i64 0])], nx := 4, nt := 58 })
        (fun _ _ => True) () ?_ ?_ (by simp; omega) trivial ?_) ?_
      · intro _ _
        rcases Classical.em (d.nodes = []) with h | h
        · have e0 : d.encN = .agg [.int .i64 d.atoms, .nils, .int .i64 d.root] := by unfold Diagram.encN; rw [h, encR_nil]
          have e1 : encR 1 d.nodes = .nils := by rw [h, encR_nil]
          rw [e0] at c6
          simp -implicitDefEqProofs only [QS, QN, QG, QO, List.length_range, cb, c6, e1, hsc, scals_bools2, rowss_bools, boxess_bools, mapOs_bools, SO, SH, frzO, frzE, AV.laid, AV.treeV, AV.treeC, St.laid, spent, AV.subs, AV.shut, AV.scal, AV.scals, evBuildSlice, elemsOf, zeroOK, evAppend, rowOf, noref, isRef, small, import_, AV.any, AV.anys, isPtr, finV, rename, noPtr, isBad, AV.isUndef, St.setRow, AV.shutV, rebuild, isAggV, evBuild, fillCells, evCutOwn, dedup, nodupB, idx, AV.rows, AV.rowss, AV.mapO, AV.mapOs, firstRegion, gc, keptBoxes, keptRows, renameB, AV.boxes, AV.boxess, leaf_some, isNormal, ifEv_bool, gate_bool, gateP_bool, gateQ_bool, pick_bool, SN, evCutRow, Int.reduceToNat, id_eq, Int.reduceBEq, Int.reduceLE, Int.reduceLT, SS, one_ne2, num_ne2, TIS, MDS, wanted, numbered, plainC, plainS, evEq, eqK, evBox, evAlloc, evStore, evLoad, evFieldAddr, behind, takeVal, AV.cells, AV.isCell, ofCells, ofCell, Value.cells, Nat.reduceAdd, Nat.reduceEqDiff, Nat.reduceLT, Nat.reduceLeDiff, Nat.reduceMul, Nat.reduceSub, reduceIte]
          repeat' (split <;> (rename_i h; (try simp -implicitDefEqProofs only [Bool.not_eq_true', Bool.not_eq_false', decide_eq_true_eq, decide_eq_false_iff_not] at h); (try simp -implicitDefEqProofs only [QS, QN, QG, QO, *, List.length_range, cb, c6, e1, hsc, scals_bools2, rowss_bools, boxess_bools, mapOs_bools, SO, SH, frzO, frzE, AV.laid, AV.treeV, AV.treeC, St.laid, spent, AV.subs, AV.shut, AV.scal, AV.scals, evBuildSlice, elemsOf, zeroOK, evAppend, rowOf, noref, isRef, small, import_, AV.any, AV.anys, isPtr, finV, rename, noPtr, isBad, AV.isUndef, St.setRow, AV.shutV, rebuild, isAggV, evBuild, fillCells, evCutOwn, dedup, nodupB, idx, AV.rows, AV.rowss, AV.mapO, AV.mapOs, firstRegion, gc, keptBoxes, keptRows, renameB, AV.boxes, AV.boxess, leaf_some, isNormal, ifEv_bool, gate_bool, gateP_bool, gateQ_bool, pick_bool, SN, evCutRow, Int.reduceToNat, id_eq, Int.reduceBEq, Int.reduceLE, Int.reduceLT, SS, one_ne2, num_ne2, TIS, MDS, wanted, numbered, plainC, plainS, evEq, eqK, evBox, evAlloc, evStore, evLoad, evFieldAddr, behind, takeVal, AV.cells, AV.isCell, ofCells, ofCell, Value.cells, Nat.reduceAdd, Nat.reduceEqDiff, Nat.reduceLT, Nat.reduceLeDiff, Nat.reduceMul, Nat.reduceSub, reduceIte])))
        · have e0 : d.encN = .agg [.int .i64 d.atoms, .own 0 false 153 3 (d.nodes.map (Choice.enc true)), .int .i64 d.root] := by unfold Diagram.encN; rw [encR_ne h]
          have e1 := encR_ne (id := 1) h
          rw [e0] at c6
          simp -implicitDefEqProofs only [QS, QN, QG, QO, List.length_range, cb, c6, e1, hsc, tscals_Choice, scals_bools2, rowss_bools, boxess_bools, mapOs_bools, SO, SH, frzO, frzE, AV.laid, AV.treeV, AV.treeC, St.laid, spent, AV.subs, AV.shut, AV.scal, AV.scals, evBuildSlice, elemsOf, zeroOK, evAppend, rowOf, noref, isRef, small, import_, AV.any, AV.anys, isPtr, finV, rename, noPtr, isBad, AV.isUndef, St.setRow, AV.shutV, rebuild, isAggV, evBuild, fillCells, evCutOwn, dedup, nodupB, idx, AV.rows, AV.rowss, AV.mapO, AV.mapOs, firstRegion, gc, keptBoxes, keptRows, renameB, AV.boxes, AV.boxess, leaf_some, isNormal, ifEv_bool, gate_bool, gateP_bool, gateQ_bool, pick_bool, SN, evCutRow, Int.reduceToNat, id_eq, Int.reduceBEq, Int.reduceLE, Int.reduceLT, SS, one_ne2, num_ne2, TIS, MDS, wanted, numbered, plainC, plainS, evEq, eqK, evBox, evAlloc, evStore, evLoad, evFieldAddr, behind, takeVal, AV.cells, AV.isCell, ofCells, ofCell, Value.cells, Nat.reduceAdd, Nat.reduceEqDiff, Nat.reduceLT, Nat.reduceLeDiff, Nat.reduceMul, Nat.reduceSub, reduceIte]
          repeat' (split <;> (rename_i h; (try simp -implicitDefEqProofs only [Bool.not_eq_true', Bool.not_eq_false', decide_eq_true_eq, decide_eq_false_iff_not] at h); (try simp -implicitDefEqProofs only [QS, QN, QG, QO, *, List.length_range, cb, c6, e1, hsc, tscals_Choice, scals_bools2, rowss_bools, boxess_bools, mapOs_bools, SO, SH, frzO, frzE, AV.laid, AV.treeV, AV.treeC, St.laid, spent, AV.subs, AV.shut, AV.scal, AV.scals, evBuildSlice, elemsOf, zeroOK, evAppend, rowOf, noref, isRef, small, import_, AV.any, AV.anys, isPtr, finV, rename, noPtr, isBad, AV.isUndef, St.setRow, AV.shutV, rebuild, isAggV, evBuild, fillCells, evCutOwn, dedup, nodupB, idx, AV.rows, AV.rowss, AV.mapO, AV.mapOs, firstRegion, gc, keptBoxes, keptRows, renameB, AV.boxes, AV.boxess, leaf_some, isNormal, ifEv_bool, gate_bool, gateP_bool, gateQ_bool, pick_bool, SN, evCutRow, Int.reduceToNat, id_eq, Int.reduceBEq, Int.reduceLE, Int.reduceLT, SS, one_ne2, num_ne2, TIS, MDS, wanted, numbered, plainC, plainS, evEq, eqK, evBox, evAlloc, evStore, evLoad, evFieldAddr, behind, takeVal, AV.cells, AV.isCell, ofCells, ofCell, Value.cells, Nat.reduceAdd, Nat.reduceEqDiff, Nat.reduceLT, Nat.reduceLeDiff, Nat.reduceMul, Nat.reduceSub, reduceIte])))
      · intro pre x r' _ hs' _
        obtain ⟨hxe, hpl0⟩ := range_at hs'
        have h5 : ((pre.length : Int) < (N : Int)) = True := eq_true (by omega)
        have hw1 : IntKind.i64.wrap ((pre.length : Int) + 1) = ((pre.length + 1 : Nat) : Int) := by rw [IntWalk.i64_in _ (by omega)]; omega
        clear hs'
        subst hxe
        have c7 := c3 pre.length (by omega)
        have c8 := c4 (valsOf at_.length pre.length)
        have hv := hT pre.length
        have hl := hTl pre.length
        have hm1 : (compTab p a o at_ pre.length).length + 1 ≤ 140737488355328 := by omega
        have hm2 : (compTab p a o at_ pre.length).length + 1 ≤ 9223372036854775807 := by omega
        have hm9 : (compTab p a o at_ pre.length).length ≤ 9223372036854775806 := by omega
        have hm8 : (compTab p a o at_ pre.length).length ≤ 140737488355327 := by omega
        generalize polB p a o at_ (valsOf at_.length pre.length) = v at c8 hv
        have hpl : plains [AV.bool v] = true := rfl
        simp -implicitDefEqProofs only [QS, QN, QG, QO, h5, hw1, cb, c7, c8, hv, hm1, hm2, hm8, hm9, hpl, hsc, Nat.mul_one, List.map_append, scals_bools2, plains_bools2, rowss_bools, boxess_bools, mapOs_bools, plan_52_8, SO, SH, frzO, frzE, AV.laid, AV.treeV, AV.treeC, St.laid, spent, AV.subs, AV.shut, AV.scal, AV.scals, evBuildSlice, elemsOf, zeroOK, evAppend, rowOf, noref, isRef, small, import_, AV.any, AV.anys, isPtr, finV, rename, noPtr, isBad, AV.isUndef, St.setRow, AV.shutV, rebuild, isAggV, evBuild, fillCells, evCutOwn, dedup, nodupB, idx, AV.rows, AV.rowss, AV.mapO, AV.mapOs, firstRegion, gc, keptBoxes, keptRows, renameB, AV.boxes, AV.boxess, keep_52_6, leaf_some, isNormal, ifEv_bool, gate_bool, gateP_bool, gateQ_bool, pick_bool, SN, evCutRow, Int.reduceToNat, id_eq, Int.reduceBEq, Int.reduceLE, Int.reduceLT, SS, one_ne2, num_ne2, TIS, MDS, wanted, numbered, plainC, plainS, evEq, eqK, evBox, evAlloc, evStore, evLoad, evFieldAddr, behind, takeVal, AV.cells, AV.isCell, ofCells, ofCell, Value.cells, Nat.reduceAdd, Nat.reduceEqDiff, Nat.reduceLT, Nat.reduceLeDiff, Nat.reduceMul, Nat.reduceSub, reduceIte]
        repeat' (split <;> (rename_i h; (try simp -implicitDefEqProofs only [Bool.not_eq_true', Bool.not_eq_false', decide_eq_true_eq, decide_eq_false_iff_not] at h); (try simp -implicitDefEqProofs only [QS, QN, QG, QO, *, h5, hw1, cb, c7, c8, hv, hm1, hm2, hm8, hm9, hpl, hsc, Nat.mul_one, List.map_append, scals_bools2, plains_bools2, rowss_bools, boxess_bools, mapOs_bools, plan_52_8, SO, SH, frzO, frzE, AV.laid, AV.treeV, AV.treeC, St.laid, spent, AV.subs, AV.shut, AV.scal, AV.scals, evBuildSlice, elemsOf, zeroOK, evAppend, rowOf, noref, isRef, small, import_, AV.any, AV.anys, isPtr, finV, rename, noPtr, isBad, AV.isUndef, St.setRow, AV.shutV, rebuild, isAggV, evBuild, fillCells, evCutOwn, dedup, nodupB, idx, AV.rows, AV.rowss, AV.mapO, AV.mapOs, firstRegion, gc, keptBoxes, keptRows, renameB, AV.boxes, AV.boxess, keep_52_6, leaf_some, isNormal, ifEv_bool, gate_bool, gateP_bool, gateQ_bool, pick_bool, SN, evCutRow, Int.reduceToNat, id_eq, Int.reduceBEq, Int.reduceLE, Int.reduceLT, SS, one_ne2, num_ne2, TIS, MDS, wanted, numbered, plainC, plainS, evEq, eqK, evBox, evAlloc, evStore, evLoad, evFieldAddr, behind, takeVal, AV.cells, AV.isCell, ofCells, ofCell, Value.cells, Nat.reduceAdd, Nat.reduceEqDiff, Nat.reduceLT, Nat.reduceLeDiff, Nat.reduceMul, Nat.reduceSub, reduceIte])))
      · simp -implicitDefEqProofs only [firstRegion]
        rw [keep_52_6]
        simp -implicitDefEqProofs only [QS, QN, QG, QO, hT0, SN, evCutRow, Int.reduceToNat, id_eq, Int.reduceBEq, Int.reduceLE, Int.reduceLT, SO, SH, frzO, frzE, AV.laid, AV.treeV, AV.treeC, St.laid, spent, AV.subs, AV.shut, AV.scal, AV.scals, evBuildSlice, elemsOf, zeroOK, evAppend, rowOf, noref, isRef, small, import_, AV.any, AV.anys, isPtr, finV, rename, noPtr, isBad, AV.isUndef, St.setRow, AV.shutV, rebuild, isAggV, evBuild, fillCells, evCutOwn, dedup, nodupB, idx, AV.rows, AV.rowss, AV.mapO, AV.mapOs, firstRegion, gc, keptBoxes, keptRows, renameB, AV.boxes, AV.boxess, SS, one_ne2, num_ne2, TIS, MDS, wanted, numbered, plainC, plainS, evEq, eqK, evBox, evAlloc, evStore, evLoad, evFieldAddr, behind, takeVal, AV.cells, AV.isCell, ofCells, ofCell, Value.cells, Nat.reduceAdd, Nat.reduceEqDiff, Nat.reduceLT, Nat.reduceLeDiff, Nat.reduceMul, Nat.reduceSub, reduceIte]
      · rfl
    · have hgt : decide (((at_.length : Nat) : Int) > 6) = true := decide_eq_true (by omega)
      have hle : decide (at_.length ≤ 6) = false := decide_eq_false (by omega)
      simp -implicitDefEqProofs only [QS, QN, QG, QO, Go.Proofs.Try.f52, enc_Policy, c1, c2, hsc, hgt, hle, ifEv_bool, gate_bool, pick_bool, if_false, if_true, SO, SH, frzO, frzE, AV.laid, AV.treeV, AV.treeC, St.laid, spent, AV.subs, AV.shut, AV.scal, AV.scals, evBuildSlice, elemsOf, zeroOK, evAppend, rowOf, noref, isRef, small, import_, AV.any, AV.anys, isPtr, finV, rename, noPtr, isBad, AV.isUndef, St.setRow, AV.shutV, rebuild, isAggV, evBuild, fillCells, evCutOwn, dedup, nodupB, idx, AV.rows, AV.rowss, AV.mapO, AV.mapOs, firstRegion, gc, keptBoxes, keptRows, renameB, AV.boxes, AV.boxess, SN, evCutRow, Int.reduceToNat, id_eq, Int.reduceBEq, Int.reduceLE, Int.reduceLT, SS, one_ne2, num_ne2, TIS, MDS, wanted, numbered, plainC, plainS, evEq, eqK, evBox, evAlloc, evStore, evLoad, evFieldAddr, behind, takeVal, AV.cells, AV.isCell, ofCells, ofCell, Value.cells, Nat.reduceAdd, Nat.reduceEqDiff, Nat.reduceLT, Nat.reduceLeDiff, Nat.reduceMul, Nat.reduceSub, reduceIte]
theorem compFor_noI {p : Policy} {a o : Int} (h : compOk p a o = false) : compAV p a o = .agg [.nils, .int .i64 0, .nils, .int .i64 0, .int .i64 0] := by
  unfold compAV
  rw [h]
  rfl
theorem compFor_yesI {p : Policy} {a o : Int} (h : compOk p a o = true) : compAV p a o = .agg [.own 0 false 45 4 ((atomsOf p a o).map (Cond.enc true)), .int .i64 (compD p a o).atoms, encR 1 (compD p a o).nodes, .int .i64 (compD p a o).root, .int .i64 p.version] := by
  unfold compAV
  rw [h]
  rfl
end Go.Proofs.Ytbajieiodabdgaa.Flat
