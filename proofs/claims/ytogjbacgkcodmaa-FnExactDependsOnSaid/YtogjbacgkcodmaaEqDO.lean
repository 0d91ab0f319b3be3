/-
Which atoms a diagram asks.
-/
import Derived.Test.YtogjbacgkcodmaaEqU
import Derived.Test.YtogjbacgkcodmaaEqW
import Derived.Test.YtogjbacgkcodmaaEqYM
set_option linter.unusedVariables false
set_option linter.unusedSimpArgs false
set_option maxRecDepth 10000
namespace Go.Proofs.Ytogjbacgkcodmaa.Flat
def asks (l : List Choice) (i : Nat) : Bool := l.any fun c => c.atom == (i : Int)
def depL (l : List Choice) (n : Nat) : List Int := ((List.range n).filter (asks l)).map Int.ofNat
theorem depL_succ {l : List Choice} {n : Nat} : depL l (n + 1) = if asks l n = true then depL l n ++ [(n : Int)] else depL l n := by
  unfold depL
  rw [List.range_succ, List.filter_append]
  by_cases h : asks l n = true
  · rw [if_pos h]; simp [h]
  · rw [if_neg h]; simp [h]
theorem depL_len (l : List Choice) (n : Nat) : (depL l n).length ≤ n := by
  unfold depL
  rw [List.length_map]
  exact Nat.le_trans (List.length_filter_le _ _) (by simp)
theorem depL_strict (l : List Choice) (n : Nat) : (depL l n).Pairwise (· < ·) := by
  unfold depL
  rw [List.pairwise_map]
  refine List.Pairwise.filter _ ?_
  exact List.pairwise_lt_range.imp fun h => by show ((_ : Nat) : Int) < ((_ : Nat) : Int); omega
def depStep (_ : Nat) (c : Choice) (b : List Int) : Sum (List Int) (List Int) := .inr (if inR c.atom 0 5 = true then b ++ [c.atom] else b)
def depA (l : List Choice) : List Int := (l.filter fun c => inR c.atom 0 5).map Choice.atom
theorem depLoop : ∀ (l : List Choice) (i : Nat) (b : List Int), loopL depStep id i l b = b ++ depA l
  | [], i, b => by simp [loopL, depA]
  | c :: r, i, b => by
    simp -implicitDefEqProofs only [loopL, depStep]
    rw [depLoop r]
    unfold depA
    by_cases h : inR c.atom 0 5 = true
    · rw [if_pos h, List.filter_cons_of_pos (p := fun c : Choice => inR c.atom 0 5) h]; simp
    · rw [if_neg h, List.filter_cons_of_neg (p := fun c : Choice => inR c.atom 0 5) h]
theorem depA_eq (l : List Choice) : sortUniq (depA l) = depL l 6 := by
  refine sortUniq_eq (depL_strict l 6) fun x => ?_
  unfold depL depA asks
  simp -implicitDefEqProofs only [List.mem_map, List.mem_filter, List.mem_range, List.any_eq_true, beq_iff_eq]
  constructor
  · rintro ⟨i, ⟨h1, c, hc, h2⟩, rfl⟩
    refine ⟨c, ⟨hc, ?_⟩, h2⟩
    unfold inR
    simp -implicitDefEqProofs only [Bool.and_eq_true, decide_eq_true_eq]
    omega
  · rintro ⟨c, ⟨hc, h⟩, rfl⟩
    unfold inR at h
    simp -implicitDefEqProofs only [Bool.and_eq_true, decide_eq_true_eq] at h
    refine ⟨c.atom.toNat, ⟨by omega, c, hc, by omega⟩, ?_⟩
    show ((c.atom.toNat : Nat) : Int) = c.atom
    omega
def askStep (k : Nat) (_ : Nat) (c : Choice) (_ : Unit) : Sum Bool Unit := if (c.atom == (k : Int)) = true then .inl true else .inr ()
theorem askLoop (k : Nat) : ∀ (l : List Choice) (i : Nat), loopL (askStep k) (fun _ => false) i l () = asks l k
  | [], i => rfl
  | c :: r, i => by
    simp -implicitDefEqProofs only [loopL, askStep, asks, List.any_cons]
    cases h : c.atom == (k : Int)
    · simpa [asks] using askLoop k r (i + 1)
    · rfl
theorem r_spec_DependsOn {fl : Bool} (k : Nat) (hk : 281474976710656 + 2 ≤ k) (d : Diagram) (hd : d.nodes.length ≤ 1099511627776) :
    run E noExt k 55 [d.enc fl] [] = some (.own 0 false 3 1 ((depL d.nodes 6).map (AV.int .i64)), []) := by
  have hs : d.nodes.length ≤ 140737488355328 := by omega
  obtain ⟨k, rfl⟩ : ∃ j, k = j + 1 := ⟨k - 1, by omega⟩
  rw [run_succ rfl rfl, body_eq (nt := 31) (fn := Go.Proofs.Try.f55) (by kernel_rfl) rfl rfl rfl rfl rfl rfl rfl rfl]
  simp -implicitDefEqProofs only [QS, QN, QO, Go.Proofs.Try.f55, enc_Diagram, SO, SH, frzO, frzE, AV.laid, AV.treeV, AV.treeC, St.laid, spent, AV.subs, AV.shut, AV.scal, AV.scals, evBuildSlice, elemsOf, zeroOK, evAppend, rowOf, noref, isRef, small, import_, AV.any, AV.anys, isPtr, finV, rename, noPtr, isBad, AV.isUndef, St.setRow, AV.shutV, rebuild, isAggV, evBuild, fillCells, evCutOwn, dedup, nodupB, idx, AV.rows, AV.rowss, AV.mapO, AV.mapOs, SN, evCutRow, Int.reduceToNat, id_eq, Int.reduceBEq, Int.reduceLE, Int.reduceLT, SS, TIS, MDS, wanted, numbered, plainC, plainS, evEq, eqK, evBox, evAlloc, evStore, evLoad, evFieldAddr, behind, takeVal, AV.cells, AV.isCell, ofCells, ofCell, Value.cells, Nat.reduceAdd, Nat.reduceEqDiff, Nat.reduceLT, Nat.reduceLeDiff, Nat.reduceMul, Nat.reduceSub, reduceIte]
  rw [ev_loop]
  refine Eq.trans (loop_list (Q := fun (_ : Unit) z => thenEnd E.P [] _ 0 (thenEv E _ _ _ _ _ (outOf 0 z)) = some (.own 0 false 3 1 ((depL d.nodes 6).map (AV.int .i64)), [])) (List.range 6) goStep id
    (fun i _ => { sl := [(1, .ptr 0 0), (3, .own 0 false 3 1 ((depL d.nodes i).map (AV.int .i64))), (4, .int .i64 (i : Nat))], bx := [(0, [.int .i64 d.atoms, .sl fl (d.nodes.map (Choice.enc fl)), .int .i64 d.root])], nx := 2, nt := 31 })
    (fun _ _ => True) () ?_ ?_ (by simp; omega) trivial ?_) ?_
  · intro _ _
    have h7 : (List.range 6).length = 6 := rfl
    have n6 : ((6 : Nat) : Int) = 6 := rfl
    simp -implicitDefEqProofs only [QS, QN, QG, QO, h7, n6, leaf_some, isNormal, ifEv_bool, SN, evCutRow, Int.reduceToNat, id_eq, Int.reduceBEq, Int.reduceLE, Int.reduceLT, SO, SH, frzO, frzE, AV.laid, AV.treeV, AV.treeC, St.laid, spent, AV.subs, AV.shut, AV.scal, AV.scals, evBuildSlice, elemsOf, zeroOK, evAppend, rowOf, noref, isRef, small, import_, AV.any, AV.anys, isPtr, finV, rename, noPtr, isBad, AV.isUndef, St.setRow, AV.shutV, rebuild, isAggV, evBuild, fillCells, evCutOwn, dedup, nodupB, idx, AV.rows, AV.rowss, AV.mapO, AV.mapOs, firstRegion, gc, keptBoxes, keptRows, renameB, AV.boxes, AV.boxess, SS, TIS, MDS, wanted, numbered, plainC, plainS, evEq, eqK, evBox, evAlloc, evStore, evLoad, evFieldAddr, behind, takeVal, AV.cells, AV.isCell, ofCells, ofCell, Value.cells, Nat.reduceAdd, Nat.reduceEqDiff, Nat.reduceLT, Nat.reduceLeDiff, Nat.reduceMul, Nat.reduceSub, reduceIte]
  · intro pre x r' _ hs' _
    have hp5 : pre.length ≤ 5 := by have := congrArg List.length hs'; simp at this; omega
    have h5 : ((pre.length : Int) < 6) = True := eq_true (by omega)
    have h5' : decide ((pre.length : Int) < 6) = true := by simp; omega
    have hw1 : IntKind.i64.wrap ((pre.length : Int) + 1) = ((pre.length + 1 : Nat) : Int) := by rw [IntWalk.i64_in _ (by omega)]; omega
    have hw0 := hw1
    have hu := depL_len d.nodes pre.length
    have hA : ((depL d.nodes pre.length).length + 1) * 8 ≤ 140737488355328 := by omega
    have hB : (depL d.nodes pre.length).length + 1 ≤ 9223372036854775807 := by omega
    have hpl : plains [AV.int IntKind.i64 (pre.length : Int)] = true := rfl
    clear hs'
    have hsc := depL_succ (l := d.nodes) (n := pre.length)
    simp -implicitDefEqProofs only [QS, QN, QO, h5, h5', goStep, SO, SH, frzO, frzE, AV.laid, AV.treeV, AV.treeC, St.laid, spent, AV.subs, AV.shut, AV.scal, AV.scals, evBuildSlice, elemsOf, zeroOK, evAppend, rowOf, noref, isRef, small, import_, AV.any, AV.anys, isPtr, finV, rename, noPtr, isBad, AV.isUndef, St.setRow, AV.shutV, rebuild, isAggV, evBuild, fillCells, evCutOwn, dedup, nodupB, idx, AV.rows, AV.rowss, AV.mapO, AV.mapOs, leaf_some, isNormal, ifEv_bool, gate_bool, gateP_bool, gateQ_bool, pick_bool, SN, evCutRow, Int.reduceToNat, id_eq, Int.reduceBEq, Int.reduceLE, Int.reduceLT, SS, TIS, MDS, wanted, numbered, plainC, plainS, evEq, eqK, evBox, evAlloc, evStore, evLoad, evFieldAddr, behind, takeVal, AV.cells, AV.isCell, ofCells, ofCell, Value.cells, Nat.reduceAdd, Nat.reduceEqDiff, Nat.reduceLT, Nat.reduceLeDiff, Nat.reduceMul, Nat.reduceSub, reduceIte]
    repeat' (split <;> (rename_i h; (try simp -implicitDefEqProofs only [Bool.not_eq_true', Bool.not_eq_false', decide_eq_true_eq, decide_eq_false_iff_not] at h); (try simp -implicitDefEqProofs only [QS, QN, QO, *, h5, h5', goStep, SO, SH, frzO, frzE, AV.laid, AV.treeV, AV.treeC, St.laid, spent, AV.subs, AV.shut, AV.scal, AV.scals, evBuildSlice, elemsOf, zeroOK, evAppend, rowOf, noref, isRef, small, import_, AV.any, AV.anys, isPtr, finV, rename, noPtr, isBad, AV.isUndef, St.setRow, AV.shutV, rebuild, isAggV, evBuild, fillCells, evCutOwn, dedup, nodupB, idx, AV.rows, AV.rowss, AV.mapO, AV.mapOs, leaf_some, isNormal, ifEv_bool, gate_bool, gateP_bool, gateQ_bool, pick_bool, SN, evCutRow, Int.reduceToNat, id_eq, Int.reduceBEq, Int.reduceLE, Int.reduceLT, SS, TIS, MDS, wanted, numbered, plainC, plainS, evEq, eqK, evBox, evAlloc, evStore, evLoad, evFieldAddr, behind, takeVal, AV.cells, AV.isCell, ofCells, ofCell, Value.cells, Nat.reduceAdd, Nat.reduceEqDiff, Nat.reduceLT, Nat.reduceLeDiff, Nat.reduceMul, Nat.reduceSub, reduceIte])))
    rw [ev_loop]
    refine loop_list (Q := fun g z => g = asks d.nodes pre.length → Leaf (thenEv E _ _ _ _ _ (outOf 1 (outOf 2 z))) _) d.nodes (askStep pre.length) (fun _ => false)
      (fun i _ => { sl := [(1, .ptr 0 0), (3, .own 0 false 3 1 ((depL d.nodes pre.length).map (AV.int .i64))), (4, .int .i64 (pre.length : Nat)), (5, .int .i64 (i : Nat))], bx := [(0, [.int .i64 d.atoms, .sl fl (d.nodes.map (Choice.enc fl)), .int .i64 d.root])], nx := 2, nt := 31 })
      (fun _ _ => True) () ?_ ?_ (by omega) trivial ?_ (askLoop pre.length d.nodes 0)
    · intro _ _
      simp -implicitDefEqProofs only [QS, QN, QO, leaf_some, isNormal, ifEv_bool, SN, evCutRow, Int.reduceToNat, id_eq, Int.reduceBEq, Int.reduceLE, Int.reduceLT, SO, SH, frzO, frzE, AV.laid, AV.treeV, AV.treeC, St.laid, spent, AV.subs, AV.shut, AV.scal, AV.scals, evBuildSlice, elemsOf, zeroOK, evAppend, rowOf, noref, isRef, small, import_, AV.any, AV.anys, isPtr, finV, rename, noPtr, isBad, AV.isUndef, St.setRow, AV.shutV, rebuild, isAggV, evBuild, fillCells, evCutOwn, dedup, nodupB, idx, AV.rows, AV.rowss, AV.mapO, AV.mapOs, SS, TIS, MDS, wanted, numbered, plainC, plainS, evEq, eqK, evBox, evAlloc, evStore, evLoad, evFieldAddr, behind, takeVal, AV.cells, AV.isCell, ofCells, ofCell, Value.cells, Nat.reduceAdd, Nat.reduceEqDiff, Nat.reduceLT, Nat.reduceLeDiff, Nat.reduceMul, Nat.reduceSub, reduceIte]
      intro he
      rw [← he] at hsc
      simp -implicitDefEqProofs only [Bool.false_eq_true, if_false] at hsc
      simp -implicitDefEqProofs only [QS, QN, QG, QO, hw1, hsc, goStep, SO, SH, frzO, frzE, AV.laid, AV.treeV, AV.treeC, St.laid, spent, AV.subs, AV.shut, AV.scal, AV.scals, evBuildSlice, elemsOf, zeroOK, evAppend, rowOf, noref, isRef, small, import_, AV.any, AV.anys, isPtr, finV, rename, noPtr, isBad, AV.isUndef, St.setRow, AV.shutV, rebuild, isAggV, evBuild, fillCells, evCutOwn, dedup, nodupB, idx, AV.rows, AV.rowss, AV.mapO, AV.mapOs, firstRegion, gc, keptBoxes, keptRows, renameB, AV.boxes, AV.boxess, keep_55_3, leaf_some, isNormal, ifEv_bool, gate_bool, gateP_bool, gateQ_bool, pick_bool, SN, evCutRow, Int.reduceToNat, id_eq, Int.reduceBEq, Int.reduceLE, Int.reduceLT, SS, TIS, MDS, wanted, numbered, plainC, plainS, evEq, eqK, evBox, evAlloc, evStore, evLoad, evFieldAddr, behind, takeVal, AV.cells, AV.isCell, ofCells, ofCell, Value.cells, Nat.reduceAdd, Nat.reduceEqDiff, Nat.reduceLT, Nat.reduceLeDiff, Nat.reduceMul, Nat.reduceSub, reduceIte]
      repeat' (split <;> (rename_i h; (try simp -implicitDefEqProofs only [Bool.not_eq_true', Bool.not_eq_false', decide_eq_true_eq, decide_eq_false_iff_not] at h); (try simp -implicitDefEqProofs only [QS, QN, QG, QO, *, hw1, hsc, goStep, SO, SH, frzO, frzE, AV.laid, AV.treeV, AV.treeC, St.laid, spent, AV.subs, AV.shut, AV.scal, AV.scals, evBuildSlice, elemsOf, zeroOK, evAppend, rowOf, noref, isRef, small, import_, AV.any, AV.anys, isPtr, finV, rename, noPtr, isBad, AV.isUndef, St.setRow, AV.shutV, rebuild, isAggV, evBuild, fillCells, evCutOwn, dedup, nodupB, idx, AV.rows, AV.rowss, AV.mapO, AV.mapOs, firstRegion, gc, keptBoxes, keptRows, renameB, AV.boxes, AV.boxess, keep_55_3, leaf_some, isNormal, ifEv_bool, gate_bool, gateP_bool, gateQ_bool, pick_bool, SN, evCutRow, Int.reduceToNat, id_eq, Int.reduceBEq, Int.reduceLE, Int.reduceLT, SS, TIS, MDS, wanted, numbered, plainC, plainS, evEq, eqK, evBox, evAlloc, evStore, evLoad, evFieldAddr, behind, takeVal, AV.cells, AV.isCell, ofCells, ofCell, Value.cells, Nat.reduceAdd, Nat.reduceEqDiff, Nat.reduceLT, Nat.reduceLeDiff, Nat.reduceMul, Nat.reduceSub, reduceIte])))
    · intro pre2 c r2 _ hs2 _
      have hx := (at_row hs2 hs).1; have hc := (at_row hs2 hs).2.1; have hlt := (at_row hs2 hs).2.2.1; have hw1 := (at_row hs2 hs).2.2.2.1; have hl9 := (at_row hs2 hs).2.2.2.2
      clear hs2
      cases e : (c.atom == ((pre.length : Nat) : Int)) with
      | false =>
        simp -implicitDefEqProofs only [QS, QN, QG, QO, enc_Choice, hx, hlt, hw1, e, askStep, SO, SH, frzO, frzE, AV.laid, AV.treeV, AV.treeC, St.laid, spent, AV.subs, AV.shut, AV.scal, AV.scals, evBuildSlice, elemsOf, zeroOK, evAppend, rowOf, noref, isRef, small, import_, AV.any, AV.anys, isPtr, finV, rename, noPtr, isBad, AV.isUndef, St.setRow, AV.shutV, rebuild, isAggV, evBuild, fillCells, evCutOwn, dedup, nodupB, idx, AV.rows, AV.rowss, AV.mapO, AV.mapOs, firstRegion, gc, keptBoxes, keptRows, renameB, AV.boxes, AV.boxess, keep_55_6, leaf_some, isNormal, ifEv_bool, gate_bool, gateP_bool, gateQ_bool, pick_bool, SN, evCutRow, Int.reduceToNat, id_eq, Int.reduceBEq, Int.reduceLE, Int.reduceLT, SS, TIS, MDS, wanted, numbered, plainC, plainS, evEq, eqK, evBox, evAlloc, evStore, evLoad, evFieldAddr, behind, takeVal, AV.cells, AV.isCell, ofCells, ofCell, Value.cells, Nat.reduceAdd, Nat.reduceEqDiff, Nat.reduceLT, Nat.reduceLeDiff, Nat.reduceMul, Nat.reduceSub, reduceIte]
        repeat' (split <;> (rename_i h; (try simp -implicitDefEqProofs only [Bool.not_eq_true', Bool.not_eq_false', decide_eq_true_eq, decide_eq_false_iff_not] at h); (try simp -implicitDefEqProofs only [QS, QN, QG, QO, *, enc_Choice, hx, hlt, hw1, e, askStep, SO, SH, frzO, frzE, AV.laid, AV.treeV, AV.treeC, St.laid, spent, AV.subs, AV.shut, AV.scal, AV.scals, evBuildSlice, elemsOf, zeroOK, evAppend, rowOf, noref, isRef, small, import_, AV.any, AV.anys, isPtr, finV, rename, noPtr, isBad, AV.isUndef, St.setRow, AV.shutV, rebuild, isAggV, evBuild, fillCells, evCutOwn, dedup, nodupB, idx, AV.rows, AV.rowss, AV.mapO, AV.mapOs, firstRegion, gc, keptBoxes, keptRows, renameB, AV.boxes, AV.boxess, keep_55_6, leaf_some, isNormal, ifEv_bool, gate_bool, gateP_bool, gateQ_bool, pick_bool, SN, evCutRow, Int.reduceToNat, id_eq, Int.reduceBEq, Int.reduceLE, Int.reduceLT, SS, TIS, MDS, wanted, numbered, plainC, plainS, evEq, eqK, evBox, evAlloc, evStore, evLoad, evFieldAddr, behind, takeVal, AV.cells, AV.isCell, ofCells, ofCell, Value.cells, Nat.reduceAdd, Nat.reduceEqDiff, Nat.reduceLT, Nat.reduceLeDiff, Nat.reduceMul, Nat.reduceSub, reduceIte])))
      | true =>
        have h23 : ∀ st : St, outOf 3 (some (.exit 2, st)) = some (.exit 2, st) := fun _ => rfl
        simp -implicitDefEqProofs only [askStep, e, if_true]
        simp -implicitDefEqProofs only [QS, QN, QO, enc_Choice, hx, hlt, hw1, e, hA, hB, hpl, h23, not_false_eq_true, not_true_eq_false, leaf_some, isNormal, ifEv_bool, List.map_append, SO, SH, frzO, frzE, AV.laid, AV.treeV, AV.treeC, St.laid, spent, AV.subs, AV.shut, AV.scal, AV.scals, evBuildSlice, elemsOf, zeroOK, evAppend, rowOf, noref, isRef, small, import_, AV.any, AV.anys, isPtr, finV, rename, noPtr, isBad, AV.isUndef, St.setRow, AV.shutV, rebuild, isAggV, evBuild, fillCells, evCutOwn, dedup, nodupB, idx, AV.rows, AV.rowss, AV.mapO, AV.mapOs, SN, evCutRow, Int.reduceToNat, id_eq, Int.reduceBEq, Int.reduceLE, Int.reduceLT, SS, TIS, MDS, wanted, numbered, plainC, plainS, evEq, eqK, evBox, evAlloc, evStore, evLoad, evFieldAddr, behind, takeVal, AV.cells, AV.isCell, ofCells, ofCell, Value.cells, Nat.reduceAdd, Nat.reduceEqDiff, Nat.reduceLT, Nat.reduceLeDiff, Nat.reduceMul, Nat.reduceSub, reduceIte]
        intro he
        rw [← he] at hsc
        simp -implicitDefEqProofs only [if_true] at hsc
        simp -implicitDefEqProofs only [QS, QN, QG, QO, hw0, hsc, List.map_append, SO, SH, frzO, frzE, AV.laid, AV.treeV, AV.treeC, St.laid, spent, AV.subs, AV.shut, AV.scal, AV.scals, evBuildSlice, elemsOf, zeroOK, evAppend, rowOf, noref, isRef, small, import_, AV.any, AV.anys, isPtr, finV, rename, noPtr, isBad, AV.isUndef, St.setRow, AV.shutV, rebuild, isAggV, evBuild, fillCells, evCutOwn, dedup, nodupB, idx, AV.rows, AV.rowss, AV.mapO, AV.mapOs, firstRegion, gc, keptBoxes, keptRows, renameB, AV.boxes, AV.boxess, keep_55_3, leaf_some, isNormal, ifEv_bool, gate_bool, gateP_bool, gateQ_bool, pick_bool, SN, evCutRow, Int.reduceToNat, id_eq, Int.reduceBEq, Int.reduceLE, Int.reduceLT, SS, TIS, MDS, wanted, numbered, plainC, plainS, evEq, eqK, evBox, evAlloc, evStore, evLoad, evFieldAddr, behind, takeVal, AV.cells, AV.isCell, ofCells, ofCell, Value.cells, Nat.reduceAdd, Nat.reduceEqDiff, Nat.reduceLT, Nat.reduceLeDiff, Nat.reduceMul, Nat.reduceSub, reduceIte]
        repeat' (split <;> (rename_i h; (try simp -implicitDefEqProofs only [Bool.not_eq_true', Bool.not_eq_false', decide_eq_true_eq, decide_eq_false_iff_not] at h); (try simp -implicitDefEqProofs only [QS, QN, QG, QO, *, hw0, hsc, List.map_append, SO, SH, frzO, frzE, AV.laid, AV.treeV, AV.treeC, St.laid, spent, AV.subs, AV.shut, AV.scal, AV.scals, evBuildSlice, elemsOf, zeroOK, evAppend, rowOf, noref, isRef, small, import_, AV.any, AV.anys, isPtr, finV, rename, noPtr, isBad, AV.isUndef, St.setRow, AV.shutV, rebuild, isAggV, evBuild, fillCells, evCutOwn, dedup, nodupB, idx, AV.rows, AV.rowss, AV.mapO, AV.mapOs, firstRegion, gc, keptBoxes, keptRows, renameB, AV.boxes, AV.boxess, keep_55_3, leaf_some, isNormal, ifEv_bool, gate_bool, gateP_bool, gateQ_bool, pick_bool, SN, evCutRow, Int.reduceToNat, id_eq, Int.reduceBEq, Int.reduceLE, Int.reduceLT, SS, TIS, MDS, wanted, numbered, plainC, plainS, evEq, eqK, evBox, evAlloc, evStore, evLoad, evFieldAddr, behind, takeVal, AV.cells, AV.isCell, ofCells, ofCell, Value.cells, Nat.reduceAdd, Nat.reduceEqDiff, Nat.reduceLT, Nat.reduceLeDiff, Nat.reduceMul, Nat.reduceSub, reduceIte])))
    · simp -implicitDefEqProofs only [firstRegion]
      rw [keep_55_6]
      simp -implicitDefEqProofs only [QS, QN, QG, QO, SN, evCutRow, Int.reduceToNat, id_eq, Int.reduceBEq, Int.reduceLE, Int.reduceLT, SO, SH, frzO, frzE, AV.laid, AV.treeV, AV.treeC, St.laid, spent, AV.subs, AV.shut, AV.scal, AV.scals, evBuildSlice, elemsOf, zeroOK, evAppend, rowOf, noref, isRef, small, import_, AV.any, AV.anys, isPtr, finV, rename, noPtr, isBad, AV.isUndef, St.setRow, AV.shutV, rebuild, isAggV, evBuild, fillCells, evCutOwn, dedup, nodupB, idx, AV.rows, AV.rowss, AV.mapO, AV.mapOs, firstRegion, gc, keptBoxes, keptRows, renameB, AV.boxes, AV.boxess, SS, TIS, MDS, wanted, numbered, plainC, plainS, evEq, eqK, evBox, evAlloc, evStore, evLoad, evFieldAddr, behind, takeVal, AV.cells, AV.isCell, ofCells, ofCell, Value.cells, Nat.reduceAdd, Nat.reduceEqDiff, Nat.reduceLT, Nat.reduceLeDiff, Nat.reduceMul, Nat.reduceSub, reduceIte]
  · simp -implicitDefEqProofs only [firstRegion]
    rw [keep_55_3]
    have hu0 : depL d.nodes 0 = [] := rfl
    simp -implicitDefEqProofs only [QS, QN, QG, QO, hu0, SN, evCutRow, Int.reduceToNat, id_eq, Int.reduceBEq, Int.reduceLE, Int.reduceLT, SO, SH, frzO, frzE, AV.laid, AV.treeV, AV.treeC, St.laid, spent, AV.subs, AV.shut, AV.scal, AV.scals, evBuildSlice, elemsOf, zeroOK, evAppend, rowOf, noref, isRef, small, import_, AV.any, AV.anys, isPtr, finV, rename, noPtr, isBad, AV.isUndef, St.setRow, AV.shutV, rebuild, isAggV, evBuild, fillCells, evCutOwn, dedup, nodupB, idx, AV.rows, AV.rowss, AV.mapO, AV.mapOs, firstRegion, gc, keptBoxes, keptRows, renameB, AV.boxes, AV.boxess, SS, TIS, MDS, wanted, numbered, plainC, plainS, evEq, eqK, evBox, evAlloc, evStore, evLoad, evFieldAddr, behind, takeVal, AV.cells, AV.isCell, ofCells, ofCell, Value.cells, Nat.reduceAdd, Nat.reduceEqDiff, Nat.reduceLT, Nat.reduceLeDiff, Nat.reduceMul, Nat.reduceSub, reduceIte]
  · rfl
theorem r_impl_DependsOn {fl : Bool} (k : Nat) (hk : 281474976710656 + 3 ≤ k) (d : Diagram) (hd : d.nodes.length ≤ 1099511627776) :
    run E noExt k 56 [d.enc fl] [] = some (.own 0 false 3 1 ((depL d.nodes 6).map (AV.int .i64)), []) := by
  have hs : d.nodes.length ≤ 140737488355328 := by omega
  have c1 := r_impl_InRange (k - 1) (by omega)
  have c4 := r_sort (k - 1) (by omega) 3
  have c5 := r_compact (k - 1) (by omega) 3
  obtain ⟨k, rfl⟩ : ∃ j, k = j + 1 := ⟨k - 1, by omega⟩
  rw [run_succ rfl rfl, body_eq (nt := 27) (fn := Go.Proofs.Try.f56) (by kernel_rfl) rfl rfl rfl rfl rfl rfl rfl rfl]
  simp -implicitDefEqProofs only [Nat.add_sub_cancel] at c1 c4 c5
  simp -implicitDefEqProofs only [QS, QN, QO, Go.Proofs.Try.f56, enc_Diagram, ifEv_bool, SN, evCutRow, Int.reduceToNat, id_eq, Int.reduceBEq, Int.reduceLE, Int.reduceLT, SO, SH, frzO, frzE, AV.laid, AV.treeV, AV.treeC, St.laid, spent, AV.subs, AV.shut, AV.scal, AV.scals, evBuildSlice, elemsOf, zeroOK, evAppend, rowOf, noref, isRef, small, import_, AV.any, AV.anys, isPtr, finV, rename, noPtr, isBad, AV.isUndef, St.setRow, AV.shutV, rebuild, isAggV, evBuild, fillCells, evCutOwn, dedup, nodupB, idx, AV.rows, AV.rowss, AV.mapO, AV.mapOs, SS, TIS, MDS, wanted, numbered, plainC, plainS, evEq, eqK, evBox, evAlloc, evStore, evLoad, evFieldAddr, behind, takeVal, AV.cells, AV.isCell, ofCells, ofCell, Value.cells, Nat.reduceAdd, Nat.reduceEqDiff, Nat.reduceLT, Nat.reduceLeDiff, Nat.reduceMul, Nat.reduceSub, reduceIte]
  rw [ev_loop]
  refine loop_list (Q := fun g z => g = depA d.nodes → thenEnd E.P [] _ 0 (thenEv E _ _ _ _ _ (outOf 0 z)) = some (.own 0 false 3 1 ((depL d.nodes 6).map (AV.int .i64)), [])) d.nodes depStep id
    (fun i out => { sl := [(3, .own 0 false 3 1 (out.map (AV.int .i64))), (8, .sl fl (d.nodes.map (Choice.enc fl))), (9, .int .i64 (d.nodes.length : Nat)), (10, .int .i64 (i : Nat))], bx := [], nx := 1, nt := 27 })
    (fun i out => out.length ≤ i) [] ?_ ?_ (by omega) (by simp) ?_ (depLoop d.nodes 0 [])
  · intro out ho
    have c6 := c4 out (by omega)
    have c7 := c5 (ascending out)
    simp -implicitDefEqProofs only [QS, QN, QG, QO, leaf_some, isNormal, ifEv_bool, c6, c7, scals_ints, SN, evCutRow, Int.reduceToNat, id_eq, Int.reduceBEq, Int.reduceLE, Int.reduceLT, look_cons, reduceCtorEq, evCall, evGive, giveRows, ioBoxes, mutArgs, roArgs, handArg, mutSlots, isPtrB, pairs, pairss, back_nil, back_cons, backO, backE, setBoxes, importB, mode_mut, mode_give, mode_io, mode_ro, List.zip_cons_cons, List.zip_nil_left, List.zip_nil_right, ite_self, ite_true, ite_false, finish_give, finish_mut1, finish_io0, finish_io1, finish_io2, finish_io3, finish_ioc, finI, finC, finW_ptr, SO, SH, frzO, frzE, AV.laid, AV.treeV, AV.treeC, St.laid, spent, AV.subs, AV.shut, AV.scal, AV.scals, evBuildSlice, elemsOf, zeroOK, evAppend, rowOf, noref, isRef, small, import_, AV.any, AV.anys, isPtr, finV, rename, noPtr, isBad, AV.isUndef, St.setRow, AV.shutV, rebuild, isAggV, evBuild, fillCells, evCutOwn, dedup, nodupB, idx, AV.rows, AV.rowss, AV.mapO, AV.mapOs, firstRegion, gc, keptBoxes, keptRows, renameB, AV.boxes, AV.boxess, SS, TIS, MDS, wanted, numbered, plainC, plainS, evEq, eqK, evBox, evAlloc, evStore, evLoad, evFieldAddr, behind, takeVal, AV.cells, AV.isCell, ofCells, ofCell, Value.cells, Nat.reduceAdd, Nat.reduceEqDiff, Nat.reduceLT, Nat.reduceLeDiff, Nat.reduceMul, Nat.reduceSub, reduceIte]
    intro he
    rw [← depA_eq, ← he]
    rfl
  · intro pre x r' out hs' ho
    have hx := (at_row hs' hs).1; have hc := (at_row hs' hs).2.1; have hlt := (at_row hs' hs).2.2.1; have hw1 := (at_row hs' hs).2.2.2.1; have hl9 := (at_row hs' hs).2.2.2.2
    clear hs'
    have c3 := c1 x.atom 0 5
    have hm1 : (out.length + 1) * 8 ≤ 140737488355328 := by omega
    have hm2 : out.length + 1 ≤ 9223372036854775807 := by omega
    have hpl : plains [AV.int IntKind.i64 x.atom] = true := rfl
    have hm3 : out.length ≤ pre.length + 1 := by omega
    have hm4 : (out ++ [x.atom]).length ≤ pre.length + 1 := by rw [List.length_append]; exact Nat.succ_le_succ ho
    have hst : depStep pre.length x out = .inr (if inR x.atom 0 5 = true then out ++ [x.atom] else out) := rfl
    cases e : inR x.atom 0 5 <;> rw [e] at c3 hst <;> simp -implicitDefEqProofs only [Bool.false_eq_true, if_false, if_true] at hst
    all_goals
      simp -implicitDefEqProofs only [QS, QN, QG, QO, enc_Choice, hx, hlt, hw1, c3, hst, hm1, hm2, hm3, hm4, hpl, List.map_append, SO, SH, frzO, frzE, AV.laid, AV.treeV, AV.treeC, St.laid, spent, AV.subs, AV.shut, AV.scal, AV.scals, evBuildSlice, elemsOf, zeroOK, evAppend, rowOf, noref, isRef, small, import_, AV.any, AV.anys, isPtr, finV, rename, noPtr, isBad, AV.isUndef, St.setRow, AV.shutV, rebuild, isAggV, evBuild, fillCells, evCutOwn, dedup, nodupB, idx, AV.rows, AV.rowss, AV.mapO, AV.mapOs, firstRegion, gc, keptBoxes, keptRows, renameB, AV.boxes, AV.boxess, keep_56_3, leaf_some, isNormal, ifEv_bool, gate_bool, gateP_bool, gateQ_bool, pick_bool, SN, evCutRow, Int.reduceToNat, id_eq, Int.reduceBEq, Int.reduceLE, Int.reduceLT, SS, TIS, MDS, wanted, numbered, plainC, plainS, evEq, eqK, evBox, evAlloc, evStore, evLoad, evFieldAddr, behind, takeVal, AV.cells, AV.isCell, ofCells, ofCell, Value.cells, Nat.reduceAdd, Nat.reduceEqDiff, Nat.reduceLT, Nat.reduceLeDiff, Nat.reduceMul, Nat.reduceSub, reduceIte]
      repeat' (split <;> (rename_i h; (try simp -implicitDefEqProofs only [Bool.not_eq_true', Bool.not_eq_false', decide_eq_true_eq, decide_eq_false_iff_not] at h); (try simp -implicitDefEqProofs only [QS, QN, QG, QO, *, enc_Choice, hx, hlt, hw1, c3, hst, hm1, hm2, hm3, hm4, hpl, List.map_append, SO, SH, frzO, frzE, AV.laid, AV.treeV, AV.treeC, St.laid, spent, AV.subs, AV.shut, AV.scal, AV.scals, evBuildSlice, elemsOf, zeroOK, evAppend, rowOf, noref, isRef, small, import_, AV.any, AV.anys, isPtr, finV, rename, noPtr, isBad, AV.isUndef, St.setRow, AV.shutV, rebuild, isAggV, evBuild, fillCells, evCutOwn, dedup, nodupB, idx, AV.rows, AV.rowss, AV.mapO, AV.mapOs, firstRegion, gc, keptBoxes, keptRows, renameB, AV.boxes, AV.boxess, keep_56_3, leaf_some, isNormal, ifEv_bool, gate_bool, gateP_bool, gateQ_bool, pick_bool, SN, evCutRow, Int.reduceToNat, id_eq, Int.reduceBEq, Int.reduceLE, Int.reduceLT, SS, TIS, MDS, wanted, numbered, plainC, plainS, evEq, eqK, evBox, evAlloc, evStore, evLoad, evFieldAddr, behind, takeVal, AV.cells, AV.isCell, ofCells, ofCell, Value.cells, Nat.reduceAdd, Nat.reduceEqDiff, Nat.reduceLT, Nat.reduceLeDiff, Nat.reduceMul, Nat.reduceSub, reduceIte])))
  · simp -implicitDefEqProofs only [firstRegion]
    rw [keep_56_3]
    simp -implicitDefEqProofs only [QS, QN, QG, QO, SN, evCutRow, Int.reduceToNat, id_eq, Int.reduceBEq, Int.reduceLE, Int.reduceLT, SO, SH, frzO, frzE, AV.laid, AV.treeV, AV.treeC, St.laid, spent, AV.subs, AV.shut, AV.scal, AV.scals, evBuildSlice, elemsOf, zeroOK, evAppend, rowOf, noref, isRef, small, import_, AV.any, AV.anys, isPtr, finV, rename, noPtr, isBad, AV.isUndef, St.setRow, AV.shutV, rebuild, isAggV, evBuild, fillCells, evCutOwn, dedup, nodupB, idx, AV.rows, AV.rowss, AV.mapO, AV.mapOs, firstRegion, gc, keptBoxes, keptRows, renameB, AV.boxes, AV.boxess, SS, TIS, MDS, wanted, numbered, plainC, plainS, evEq, eqK, evBox, evAlloc, evStore, evLoad, evFieldAddr, behind, takeVal, AV.cells, AV.isCell, ofCells, ofCell, Value.cells, Nat.reduceAdd, Nat.reduceEqDiff, Nat.reduceLT, Nat.reduceLeDiff, Nat.reduceMul, Nat.reduceSub, reduceIte]
theorem r_laws_markDiagram (k : Nat) (hk : 281474976710656 + 2 ≤ k) (d : Diagram) (hd : d.nodes.length ≤ 1099511627776) (z : Int) (hz : 0 ≤ z ∧ z ≤ 1099511627776) :
    run E noExt k 50 [d.encO, .int .i64 z] [] = some (.int .i64 (z + ((3 * d.nodes.length : Nat) : Int)), [[({ d with nodes := marks_Choice z d.nodes.length } : Diagram).encO]]) := by
  have c1 := r_laws_markChoiceS (k - 1) (by omega) d.nodes hd z hz
  obtain ⟨k, rfl⟩ : ∃ j, k = j + 1 := ⟨k - 1, by omega⟩
  rw [run_succ rfl rfl, body_eq (nt := 10) (fn := Go.Proofs.Try.f50) (by kernel_rfl) rfl rfl rfl rfl rfl rfl rfl rfl]
  simp -implicitDefEqProofs only [Nat.add_sub_cancel] at c1
  simp -implicitDefEqProofs only [QS, QN, QG, QO, Go.Proofs.Try.f50, Diagram.encO, c1, scals_ints, SN, evCutRow, Int.reduceToNat, id_eq, Int.reduceBEq, Int.reduceLE, Int.reduceLT, look_cons, reduceCtorEq, evCall_mutOwn, evCall_mutAgg, evGive, giveRows, ioBoxes, mutArgs, roArgs, handArg, mutSlots, isPtrB, pairs, pairss, back_nil, back_cons, backO, backE, setBoxes, importB, mode_mut, mode_give, mode_io, mode_ro, List.zip_cons_cons, List.zip_nil_left, List.zip_nil_right, ite_self, ite_true, ite_false, finish_give, finish_mut1, finish_io0, finish_io1, finish_io2, finish_io3, finish_ioc, finI, finC, finW_ptr, SO, SH, frzO, frzE, AV.laid, AV.treeV, AV.treeC, St.laid, spent, AV.subs, AV.shut, AV.scal, AV.scals, evBuildSlice, elemsOf, zeroOK, evAppend, rowOf, noref, isRef, small, import_, AV.any, AV.anys, isPtr, finV, rename, noPtr, isBad, AV.isUndef, St.setRow, AV.shutV, rebuild, isAggV, evBuild, fillCells, evCutOwn, dedup, nodupB, idx, AV.rows, AV.rowss, AV.mapO, AV.mapOs, firstRegion, gc, keptBoxes, keptRows, renameB, AV.boxes, AV.boxess, SS, TIS, MDS, wanted, numbered, plainC, plainS, evEq, eqK, evBox, evAlloc, evStore, evLoad, evFieldAddr, behind, takeVal, AV.cells, AV.isCell, ofCells, ofCell, Value.cells, Nat.reduceAdd, Nat.reduceEqDiff, Nat.reduceLT, Nat.reduceLeDiff, Nat.reduceMul, Nat.reduceSub, reduceIte]
  rw [finish_mut1 rfl]
  simp -implicitDefEqProofs only [QS, QN, QG, QO, finC, SN, evCutRow, Int.reduceToNat, id_eq, Int.reduceBEq, Int.reduceLE, Int.reduceLT, SO, SH, frzO, frzE, AV.laid, AV.treeV, AV.treeC, St.laid, spent, AV.subs, AV.shut, AV.scal, AV.scals, evBuildSlice, elemsOf, zeroOK, evAppend, rowOf, noref, isRef, small, import_, AV.any, AV.anys, isPtr, finV, rename, noPtr, isBad, AV.isUndef, St.setRow, AV.shutV, rebuild, isAggV, evBuild, fillCells, evCutOwn, dedup, nodupB, idx, AV.rows, AV.rowss, AV.mapO, AV.mapOs, firstRegion, gc, keptBoxes, keptRows, renameB, AV.boxes, AV.boxess, SS, TIS, MDS, wanted, numbered, plainC, plainS, evEq, eqK, evBox, evAlloc, evStore, evLoad, evFieldAddr, behind, takeVal, AV.cells, AV.isCell, ofCells, ofCell, Value.cells, Nat.reduceAdd, Nat.reduceEqDiff, Nat.reduceLT, Nat.reduceLeDiff, Nat.reduceMul, Nat.reduceSub, reduceIte]
end Go.Proofs.Ytogjbacgkcodmaa.Flat
