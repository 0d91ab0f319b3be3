/-
Atoms, and conditions that can both hold.
-/
import Derived.Test.YtbajieiodabdgaaEqGA
import Derived.Test.YtbajieiodabdgaaEqTO
import Derived.Test.YtbajieiodabdgaaEqJ
set_option linter.unusedVariables false
set_option linter.unusedSimpArgs false
set_option maxRecDepth 10000
namespace Go.Proofs.Ytbajieiodabdgaa.Flat
noncomputable def atomsL (a o : Int) : List Rule → List Cond → List Cond
  | [], out => out
  | r :: rs, out => atomsL a o rs (if isFor r a o = true then gather r.cond out else out)
noncomputable def atomsOf (p : Policy) (a o : Int) : List Cond := atomsL a o p.rules []
noncomputable def atStep (a o : Int) (_ : Nat) (r : Rule) (b : List Cond) : Sum (List Cond) (List Cond) := .inr (if isFor r a o = true then gather r.cond b else b)
theorem atLoop (a o : Int) : ∀ (s : List Rule) (i : Nat) (b : List Cond), loopL (atStep a o) id i s b = atomsL a o s b
  | [], i, b => rfl
  | c :: r, i, b => by
    simp -implicitDefEqProofs only [loopL, atStep, atomsL]
    exact atLoop a o r _ _
theorem atomsL_facts (a o : Int) : ∀ (s : List Rule) (out : List Cond), (Leaves out → Leaves (atomsL a o s out)) ∧ (atomsL a o s out).length ≤ out.length + wl Rule.w s
  | [], out => ⟨fun h => h, by simp [atomsL, wl]⟩
  | c :: r, out => by
    have h1 := gather_facts c.cond out
    have hw : c.w = c.cond.w := rfl
    simp -implicitDefEqProofs only [atomsL, wl]
    cases e : isFor c a o
    · have h2 := atomsL_facts a o r out
      simp -implicitDefEqProofs only [Bool.false_eq_true, if_false]
      exact ⟨h2.1, by omega⟩
    · have h2 := atomsL_facts a o r (gather c.cond out)
      simp -implicitDefEqProofs only [if_true]
      exact ⟨fun h => h2.1 (h1.1 h), by omega⟩
theorem leaves_nil : Leaves [] := fun _ h => by simp at h
theorem atomsOf_leaves (p : Policy) (a o : Int) : Leaves (atomsOf p a o) := (atomsL_facts a o p.rules []).1 leaves_nil
theorem atomsOf_len (p : Policy) (a o : Int) : (atomsOf p a o).length ≤ p.w := by
  have := (atomsL_facts a o p.rules []).2
  unfold atomsOf Policy.w
  simpa using this
theorem r_impl_AtomsFor {fl : Bool} (k : Nat) (p : Policy) (hk : 290271069732864 + 4 * p.w + 30 ≤ k) (hp : p.w ≤ 1099511627776) (a o : Int) :
    run E noExt k 19 [p.enc fl, .int .i64 a, .int .i64 o] [] = some (.own 0 false 45 4 ((atomsOf p a o).map (Cond.enc true)), []) := by
  unfold Policy.w at hk hp
  have hs1 := wl_length Rule.w p.rules
  have hs : p.rules.length ≤ 140737488355328 := by omega
  have c1 := fun (c : Rule) => r_impl_IsFor (fl := fl) (k - 1) (by omega) c a o
  have c2 := fun (c : Rule) (hc : c ∈ p.rules) out ho hl => r_impl_gathered0 (fl := fl) c.cond (k - 1) (by have := wl_mem (w := Rule.w) hc; have hw : c.w = c.cond.w := rfl; omega) (by have := wl_mem (w := Rule.w) hc; have hw : c.w = c.cond.w := rfl; omega) out ho hl
  unfold atomsOf
  obtain ⟨k, rfl⟩ : ∃ j, k = j + 1 := ⟨k - 1, by omega⟩
  rw [run_succ rfl rfl, body_eq (nt := 28) (fn := Go.Proofs.Try.f19) (by kernel_rfl) rfl rfl rfl rfl rfl rfl rfl rfl]
  simp -implicitDefEqProofs only [Nat.add_sub_cancel, enc_Cond, enc_Rule] at c1 c2
  simp -implicitDefEqProofs only [QS, QN, QO, Go.Proofs.Try.f19, enc_Policy, SO, SH, frzO, frzE, AV.laid, AV.treeV, AV.treeC, St.laid, spent, AV.subs, AV.shut, AV.scal, AV.scals, evBuildSlice, elemsOf, zeroOK, evAppend, rowOf, noref, isRef, small, import_, AV.any, AV.anys, isPtr, finV, rename, noPtr, isBad, AV.isUndef, St.setRow, AV.shutV, rebuild, isAggV, evBuild, fillCells, evCutOwn, dedup, nodupB, idx, AV.rows, AV.rowss, AV.mapO, AV.mapOs, SN, evCutRow, Int.reduceToNat, id_eq, Int.reduceBEq, Int.reduceLE, Int.reduceLT, SS, one_ne2, num_ne2, TIS, MDS, wanted, numbered, plainC, plainS, evEq, eqK, evBox, evAlloc, evStore, evLoad, evFieldAddr, behind, takeVal, AV.cells, AV.isCell, ofCells, ofCell, Value.cells, Nat.reduceAdd, Nat.reduceEqDiff, Nat.reduceLT, Nat.reduceLeDiff, Nat.reduceMul, Nat.reduceSub, reduceIte]
  rw [ev_loop]
  refine Eq.trans (loop_list (Q := fun (g : List Cond) z => thenEnd E.P _ _ 0 (thenEv E _ _ _ _ _ (outOf 0 z)) = some (.own 0 false 45 4 (g.map (Cond.enc true)), [])) p.rules (atStep a o) id
    (fun i b => { sl := [(1, .int .i64 a), (2, .int .i64 o), (7, .own 0 false 45 4 (b.map (Cond.enc true))), (12, .sl fl (p.rules.map (Rule.enc fl))), (13, .int .i64 (p.rules.length : Nat)), (14, .int .i64 (i : Nat))], bx := [], nx := 1, nt := 28 })
    (fun i b => Leaves b ∧ b.length + wl Rule.w (p.rules.drop i) ≤ wl Rule.w p.rules) [] ?_ ?_ (by omega) ⟨leaves_nil, by simp⟩ ?_) ?_
  · intro b _
    simp -implicitDefEqProofs only [QS, QN, QG, QO, SO, SH, frzO, frzE, AV.laid, AV.treeV, AV.treeC, St.laid, spent, AV.subs, AV.shut, AV.scal, AV.scals, evBuildSlice, elemsOf, zeroOK, evAppend, rowOf, noref, isRef, small, import_, AV.any, AV.anys, isPtr, finV, rename, noPtr, isBad, AV.isUndef, St.setRow, AV.shutV, rebuild, isAggV, evBuild, fillCells, evCutOwn, dedup, nodupB, idx, AV.rows, AV.rowss, AV.mapO, AV.mapOs, firstRegion, gc, keptBoxes, keptRows, renameB, AV.boxes, AV.boxess, leaf_some, isNormal, ifEv_bool, gate_bool, gateP_bool, gateQ_bool, pick_bool, SN, evCutRow, Int.reduceToNat, id_eq, Int.reduceBEq, Int.reduceLE, Int.reduceLT, SS, one_ne2, num_ne2, TIS, MDS, wanted, numbered, plainC, plainS, evEq, eqK, evBox, evAlloc, evStore, evLoad, evFieldAddr, behind, takeVal, AV.cells, AV.isCell, ofCells, ofCell, Value.cells, Nat.reduceAdd, Nat.reduceEqDiff, Nat.reduceLT, Nat.reduceLeDiff, Nat.reduceMul, Nat.reduceSub, reduceIte]
    repeat' (split <;> (rename_i h; (try simp -implicitDefEqProofs only [Bool.not_eq_true', Bool.not_eq_false', decide_eq_true_eq, decide_eq_false_iff_not] at h); (try simp -implicitDefEqProofs only [QS, QN, QG, QO, *, SO, SH, frzO, frzE, AV.laid, AV.treeV, AV.treeC, St.laid, spent, AV.subs, AV.shut, AV.scal, AV.scals, evBuildSlice, elemsOf, zeroOK, evAppend, rowOf, noref, isRef, small, import_, AV.any, AV.anys, isPtr, finV, rename, noPtr, isBad, AV.isUndef, St.setRow, AV.shutV, rebuild, isAggV, evBuild, fillCells, evCutOwn, dedup, nodupB, idx, AV.rows, AV.rowss, AV.mapO, AV.mapOs, firstRegion, gc, keptBoxes, keptRows, renameB, AV.boxes, AV.boxess, leaf_some, isNormal, ifEv_bool, gate_bool, gateP_bool, gateQ_bool, pick_bool, SN, evCutRow, Int.reduceToNat, id_eq, Int.reduceBEq, Int.reduceLE, Int.reduceLT, SS, one_ne2, num_ne2, TIS, MDS, wanted, numbered, plainC, plainS, evEq, eqK, evBox, evAlloc, evStore, evLoad, evFieldAddr, behind, takeVal, AV.cells, AV.isCell, ofCells, ofCell, Value.cells, Nat.reduceAdd, Nat.reduceEqDiff, Nat.reduceLT, Nat.reduceLeDiff, Nat.reduceMul, Nat.reduceSub, reduceIte])))
  · intro pre c r b hs' ⟨hb1, hb2⟩
    have hx := (at_row hs' hs).1; have hc := (at_row hs' hs).2.1; have hlt := (at_row hs' hs).2.2.1; have hw1 := (at_row hs' hs).2.2.2.1; have hl9 := (at_row hs' hs).2.2.2.2
    have hd : p.rules.drop pre.length = c :: r := by rw [hs']; simp
    have hd1 : p.rules.drop (pre.length + 1) = r := by rw [hs']; simp
    have hg1 := gather_facts c.cond b
    have hw : c.w = c.cond.w := rfl
    rw [hd] at hb2
    simp -implicitDefEqProofs only [wl] at hb2
    have c3 := c1 c
    have c4 := c2 c hc b hb1 (by omega)
    have hI : Leaves (if isFor c a o = true then gather c.cond b else b) ∧ (if isFor c a o = true then gather c.cond b else b).length + wl Rule.w (p.rules.drop (pre.length + 1)) ≤ wl Rule.w p.rules := by
      rw [hd1]
      split
      · exact ⟨hg1.1 hb1, by have := hg1.2; omega⟩
      · exact ⟨hb1, by omega⟩
    have hst : atStep a o pre.length c b = .inr (if isFor c a o = true then gather c.cond b else b) := rfl
    clear hs' hd hd1 c1 c2
    have hs1 := scals_leaves hb1
    have hs2 := scals_leaves (hg1.1 hb1)
    cases e : isFor c a o <;> rw [e] at c3 hst hI <;> simp -implicitDefEqProofs only [Bool.false_eq_true, if_false, if_true] at hst hI
    all_goals
      simp -implicitDefEqProofs only [QS, QN, QG, QO, enc_Rule, enc_Cond, hx, hlt, hw1, c3, c4, hs1, hs2, hst, evCall_rg, look_cons, reduceCtorEq, evCall_mutOwn, evCall_mutAgg, evGive, giveRows, ioBoxes, mutArgs, roArgs, handArg, mutSlots, isPtrB, pairs, pairss, back_nil, back_cons, backO, backE, setBoxes, importB, mode_mut, mode_give, mode_io, mode_ro, List.zip_cons_cons, List.zip_nil_left, List.zip_nil_right, ite_self, ite_true, ite_false, finish_give, finish_mut1, finish_io0, finish_io1, finish_io2, finish_io3, finish_ioc, finI, finC, finW_ptr, SO, SH, frzO, frzE, AV.laid, AV.treeV, AV.treeC, St.laid, spent, AV.subs, AV.shut, AV.scal, AV.scals, evBuildSlice, elemsOf, zeroOK, evAppend, rowOf, noref, isRef, small, import_, AV.any, AV.anys, isPtr, finV, rename, noPtr, isBad, AV.isUndef, St.setRow, AV.shutV, rebuild, isAggV, evBuild, fillCells, evCutOwn, dedup, nodupB, idx, AV.rows, AV.rowss, AV.mapO, AV.mapOs, firstRegion, gc, keptBoxes, keptRows, renameB, AV.boxes, AV.boxess, keep_19_3, leaf_some, isNormal, ifEv_bool, gate_bool, gateP_bool, gateQ_bool, pick_bool, SN, evCutRow, Int.reduceToNat, id_eq, Int.reduceBEq, Int.reduceLE, Int.reduceLT, SS, one_ne2, num_ne2, TIS, MDS, wanted, numbered, plainC, plainS, evEq, eqK, evBox, evAlloc, evStore, evLoad, evFieldAddr, behind, takeVal, AV.cells, AV.isCell, ofCells, ofCell, Value.cells, Nat.reduceAdd, Nat.reduceEqDiff, Nat.reduceLT, Nat.reduceLeDiff, Nat.reduceMul, Nat.reduceSub, reduceIte]
      repeat' (split <;> (rename_i h; (try simp -implicitDefEqProofs only [Bool.not_eq_true', Bool.not_eq_false', decide_eq_true_eq, decide_eq_false_iff_not] at h); (try simp -implicitDefEqProofs only [QS, QN, QG, QO, *, enc_Rule, enc_Cond, hx, hlt, hw1, c3, c4, hs1, hs2, hst, evCall_rg, look_cons, reduceCtorEq, evCall_mutOwn, evCall_mutAgg, evGive, giveRows, ioBoxes, mutArgs, roArgs, handArg, mutSlots, isPtrB, pairs, pairss, back_nil, back_cons, backO, backE, setBoxes, importB, mode_mut, mode_give, mode_io, mode_ro, List.zip_cons_cons, List.zip_nil_left, List.zip_nil_right, ite_self, ite_true, ite_false, finish_give, finish_mut1, finish_io0, finish_io1, finish_io2, finish_io3, finish_ioc, finI, finC, finW_ptr, SO, SH, frzO, frzE, AV.laid, AV.treeV, AV.treeC, St.laid, spent, AV.subs, AV.shut, AV.scal, AV.scals, evBuildSlice, elemsOf, zeroOK, evAppend, rowOf, noref, isRef, small, import_, AV.any, AV.anys, isPtr, finV, rename, noPtr, isBad, AV.isUndef, St.setRow, AV.shutV, rebuild, isAggV, evBuild, fillCells, evCutOwn, dedup, nodupB, idx, AV.rows, AV.rowss, AV.mapO, AV.mapOs, firstRegion, gc, keptBoxes, keptRows, renameB, AV.boxes, AV.boxess, keep_19_3, leaf_some, isNormal, ifEv_bool, gate_bool, gateP_bool, gateQ_bool, pick_bool, SN, evCutRow, Int.reduceToNat, id_eq, Int.reduceBEq, Int.reduceLE, Int.reduceLT, SS, one_ne2, num_ne2, TIS, MDS, wanted, numbered, plainC, plainS, evEq, eqK, evBox, evAlloc, evStore, evLoad, evFieldAddr, behind, takeVal, AV.cells, AV.isCell, ofCells, ofCell, Value.cells, Nat.reduceAdd, Nat.reduceEqDiff, Nat.reduceLT, Nat.reduceLeDiff, Nat.reduceMul, Nat.reduceSub, reduceIte])))
      exact hI
  · simp -implicitDefEqProofs only [firstRegion]
    rw [keep_19_3]
    simp -implicitDefEqProofs only [QS, QN, QG, QO, SN, evCutRow, Int.reduceToNat, id_eq, Int.reduceBEq, Int.reduceLE, Int.reduceLT, SO, SH, frzO, frzE, AV.laid, AV.treeV, AV.treeC, St.laid, spent, AV.subs, AV.shut, AV.scal, AV.scals, evBuildSlice, elemsOf, zeroOK, evAppend, rowOf, noref, isRef, small, import_, AV.any, AV.anys, isPtr, finV, rename, noPtr, isBad, AV.isUndef, St.setRow, AV.shutV, rebuild, isAggV, evBuild, fillCells, evCutOwn, dedup, nodupB, idx, AV.rows, AV.rowss, AV.mapO, AV.mapOs, firstRegion, gc, keptBoxes, keptRows, renameB, AV.boxes, AV.boxess, SS, one_ne2, num_ne2, TIS, MDS, wanted, numbered, plainC, plainS, evEq, eqK, evBox, evAlloc, evStore, evLoad, evFieldAddr, behind, takeVal, AV.cells, AV.isCell, ofCells, ofCell, Value.cells, Nat.reduceAdd, Nat.reduceEqDiff, Nat.reduceLT, Nat.reduceLeDiff, Nat.reduceMul, Nat.reduceSub, reduceIte]
  · rw [atLoop]
theorem r_spec_AtomsFor {fl : Bool} (k : Nat) (p : Policy) (hk : 290271069732864 + 4 * p.w + 30 ≤ k) (hp : p.w ≤ 1099511627776) (a o : Int) :
    run E noExt k 18 [p.enc fl, .int .i64 a, .int .i64 o] [] = some (.own 0 false 45 4 ((atomsOf p a o).map (Cond.enc true)), []) := by
  unfold Policy.w at hk hp
  have hs1 := wl_length Rule.w p.rules
  have hs : p.rules.length ≤ 140737488355328 := by omega
  have c1 := fun (c : Rule) => r_spec_IsFor (fl := fl) (k - 1) (by omega) c a o
  have c2 := fun (c : Rule) (hc : c ∈ p.rules) out ho hl => r_spec_l15Leaves0 (fl := fl) c.cond (k - 1) (by have := wl_mem (w := Rule.w) hc; have hw : c.w = c.cond.w := rfl; omega) (by have := wl_mem (w := Rule.w) hc; have hw : c.w = c.cond.w := rfl; omega) out ho hl
  unfold atomsOf
  obtain ⟨k, rfl⟩ : ∃ j, k = j + 1 := ⟨k - 1, by omega⟩
  rw [run_succ rfl rfl, body_eq (nt := 34) (fn := Go.Proofs.Try.f18) (by kernel_rfl) rfl rfl rfl rfl rfl rfl rfl rfl]
  simp -implicitDefEqProofs only [Nat.add_sub_cancel, enc_Cond, enc_Rule] at c1 c2
  simp -implicitDefEqProofs only [QS, QN, QO, Go.Proofs.Try.f18, enc_Policy, SO, SH, frzO, frzE, AV.laid, AV.treeV, AV.treeC, St.laid, spent, AV.subs, AV.shut, AV.scal, AV.scals, evBuildSlice, elemsOf, zeroOK, evAppend, rowOf, noref, isRef, small, import_, AV.any, AV.anys, isPtr, finV, rename, noPtr, isBad, AV.isUndef, St.setRow, AV.shutV, rebuild, isAggV, evBuild, fillCells, evCutOwn, dedup, nodupB, idx, AV.rows, AV.rowss, AV.mapO, AV.mapOs, SN, evCutRow, Int.reduceToNat, id_eq, Int.reduceBEq, Int.reduceLE, Int.reduceLT, SS, one_ne2, num_ne2, TIS, MDS, wanted, numbered, plainC, plainS, evEq, eqK, evBox, evAlloc, evStore, evLoad, evFieldAddr, behind, takeVal, AV.cells, AV.isCell, ofCells, ofCell, Value.cells, Nat.reduceAdd, Nat.reduceEqDiff, Nat.reduceLT, Nat.reduceLeDiff, Nat.reduceMul, Nat.reduceSub, reduceIte]
  rw [ev_loop]
  refine Eq.trans (loop_list (Q := fun (g : List Cond) z => thenEnd E.P _ _ 0 (thenEv E _ _ _ _ _ (outOf 0 z)) = some (.own 0 false 45 4 (g.map (Cond.enc true)), [])) p.rules (atStep a o) id
    (fun i b => { sl := [(1, .int .i64 a), (2, .int .i64 o), (3, .ptr 0 0), (7, .own 0 false 45 4 (b.map (Cond.enc true))), (8, .int .i64 (i : Nat))], bx := [(0, [.int .i64 p.version, .sl fl (p.rules.map (Rule.enc fl))])], nx := 2, nt := 34 })
    (fun i b => Leaves b ∧ b.length + wl Rule.w (p.rules.drop i) ≤ wl Rule.w p.rules) [] ?_ ?_ (by omega) ⟨leaves_nil, by simp⟩ ?_) ?_
  · intro b _
    simp -implicitDefEqProofs only [QS, QN, QG, QO, SO, SH, frzO, frzE, AV.laid, AV.treeV, AV.treeC, St.laid, spent, AV.subs, AV.shut, AV.scal, AV.scals, evBuildSlice, elemsOf, zeroOK, evAppend, rowOf, noref, isRef, small, import_, AV.any, AV.anys, isPtr, finV, rename, noPtr, isBad, AV.isUndef, St.setRow, AV.shutV, rebuild, isAggV, evBuild, fillCells, evCutOwn, dedup, nodupB, idx, AV.rows, AV.rowss, AV.mapO, AV.mapOs, firstRegion, gc, keptBoxes, keptRows, renameB, AV.boxes, AV.boxess, leaf_some, isNormal, ifEv_bool, gate_bool, gateP_bool, gateQ_bool, pick_bool, SN, evCutRow, Int.reduceToNat, id_eq, Int.reduceBEq, Int.reduceLE, Int.reduceLT, SS, one_ne2, num_ne2, TIS, MDS, wanted, numbered, plainC, plainS, evEq, eqK, evBox, evAlloc, evStore, evLoad, evFieldAddr, behind, takeVal, AV.cells, AV.isCell, ofCells, ofCell, Value.cells, Nat.reduceAdd, Nat.reduceEqDiff, Nat.reduceLT, Nat.reduceLeDiff, Nat.reduceMul, Nat.reduceSub, reduceIte]
    repeat' (split <;> (rename_i h; (try simp -implicitDefEqProofs only [Bool.not_eq_true', Bool.not_eq_false', decide_eq_true_eq, decide_eq_false_iff_not] at h); (try simp -implicitDefEqProofs only [QS, QN, QG, QO, *, SO, SH, frzO, frzE, AV.laid, AV.treeV, AV.treeC, St.laid, spent, AV.subs, AV.shut, AV.scal, AV.scals, evBuildSlice, elemsOf, zeroOK, evAppend, rowOf, noref, isRef, small, import_, AV.any, AV.anys, isPtr, finV, rename, noPtr, isBad, AV.isUndef, St.setRow, AV.shutV, rebuild, isAggV, evBuild, fillCells, evCutOwn, dedup, nodupB, idx, AV.rows, AV.rowss, AV.mapO, AV.mapOs, firstRegion, gc, keptBoxes, keptRows, renameB, AV.boxes, AV.boxess, leaf_some, isNormal, ifEv_bool, gate_bool, gateP_bool, gateQ_bool, pick_bool, SN, evCutRow, Int.reduceToNat, id_eq, Int.reduceBEq, Int.reduceLE, Int.reduceLT, SS, one_ne2, num_ne2, TIS, MDS, wanted, numbered, plainC, plainS, evEq, eqK, evBox, evAlloc, evStore, evLoad, evFieldAddr, behind, takeVal, AV.cells, AV.isCell, ofCells, ofCell, Value.cells, Nat.reduceAdd, Nat.reduceEqDiff, Nat.reduceLT, Nat.reduceLeDiff, Nat.reduceMul, Nat.reduceSub, reduceIte])))
  · intro pre c r b hs' ⟨hb1, hb2⟩
    have hx := (at_row hs' hs).1; have hc := (at_row hs' hs).2.1; have hlt := (at_row hs' hs).2.2.1; have hw1 := (at_row hs' hs).2.2.2.1; have hl9 := (at_row hs' hs).2.2.2.2
    have hd : p.rules.drop pre.length = c :: r := by rw [hs']; simp
    have hd1 : p.rules.drop (pre.length + 1) = r := by rw [hs']; simp
    have hg1 := gather_facts c.cond b
    have hw : c.w = c.cond.w := rfl
    rw [hd] at hb2
    simp -implicitDefEqProofs only [wl] at hb2
    have c3 := c1 c
    have c4 := c2 c hc b hb1 (by omega)
    have hI : Leaves (if isFor c a o = true then gather c.cond b else b) ∧ (if isFor c a o = true then gather c.cond b else b).length + wl Rule.w (p.rules.drop (pre.length + 1)) ≤ wl Rule.w p.rules := by
      rw [hd1]
      split
      · exact ⟨hg1.1 hb1, by have := hg1.2; omega⟩
      · exact ⟨hb1, by omega⟩
    have hst : atStep a o pre.length c b = .inr (if isFor c a o = true then gather c.cond b else b) := rfl
    clear hs' hd hd1 c1 c2
    have hs1 := scals_leaves hb1
    have hs2 := scals_leaves (hg1.1 hb1)
    cases e : isFor c a o <;> rw [e] at c3 hst hI <;> simp -implicitDefEqProofs only [Bool.false_eq_true, if_false, if_true] at hst hI
    all_goals
      simp -implicitDefEqProofs only [QS, QN, QG, QO, enc_Rule, enc_Cond, hx, hlt, hw1, c3, c4, hs1, hs2, hst, evCall_gr, look_cons, reduceCtorEq, evCall_mutOwn, evCall_mutAgg, evGive, giveRows, ioBoxes, mutArgs, roArgs, handArg, mutSlots, isPtrB, pairs, pairss, back_nil, back_cons, backO, backE, setBoxes, importB, mode_mut, mode_give, mode_io, mode_ro, List.zip_cons_cons, List.zip_nil_left, List.zip_nil_right, ite_self, ite_true, ite_false, finish_give, finish_mut1, finish_io0, finish_io1, finish_io2, finish_io3, finish_ioc, finI, finC, finW_ptr, SO, SH, frzO, frzE, AV.laid, AV.treeV, AV.treeC, St.laid, spent, AV.subs, AV.shut, AV.scal, AV.scals, evBuildSlice, elemsOf, zeroOK, evAppend, rowOf, noref, isRef, small, import_, AV.any, AV.anys, isPtr, finV, rename, noPtr, isBad, AV.isUndef, St.setRow, AV.shutV, rebuild, isAggV, evBuild, fillCells, evCutOwn, dedup, nodupB, idx, AV.rows, AV.rowss, AV.mapO, AV.mapOs, firstRegion, gc, keptBoxes, keptRows, renameB, AV.boxes, AV.boxess, keep_18_3, leaf_some, isNormal, ifEv_bool, gate_bool, gateP_bool, gateQ_bool, pick_bool, SN, evCutRow, Int.reduceToNat, id_eq, Int.reduceBEq, Int.reduceLE, Int.reduceLT, SS, one_ne2, num_ne2, TIS, MDS, wanted, numbered, plainC, plainS, evEq, eqK, evBox, evAlloc, evStore, evLoad, evFieldAddr, behind, takeVal, AV.cells, AV.isCell, ofCells, ofCell, Value.cells, Nat.reduceAdd, Nat.reduceEqDiff, Nat.reduceLT, Nat.reduceLeDiff, Nat.reduceMul, Nat.reduceSub, reduceIte]
      repeat' (split <;> (rename_i h; (try simp -implicitDefEqProofs only [Bool.not_eq_true', Bool.not_eq_false', decide_eq_true_eq, decide_eq_false_iff_not] at h); (try simp -implicitDefEqProofs only [QS, QN, QG, QO, *, enc_Rule, enc_Cond, hx, hlt, hw1, c3, c4, hs1, hs2, hst, evCall_gr, look_cons, reduceCtorEq, evCall_mutOwn, evCall_mutAgg, evGive, giveRows, ioBoxes, mutArgs, roArgs, handArg, mutSlots, isPtrB, pairs, pairss, back_nil, back_cons, backO, backE, setBoxes, importB, mode_mut, mode_give, mode_io, mode_ro, List.zip_cons_cons, List.zip_nil_left, List.zip_nil_right, ite_self, ite_true, ite_false, finish_give, finish_mut1, finish_io0, finish_io1, finish_io2, finish_io3, finish_ioc, finI, finC, finW_ptr, SO, SH, frzO, frzE, AV.laid, AV.treeV, AV.treeC, St.laid, spent, AV.subs, AV.shut, AV.scal, AV.scals, evBuildSlice, elemsOf, zeroOK, evAppend, rowOf, noref, isRef, small, import_, AV.any, AV.anys, isPtr, finV, rename, noPtr, isBad, AV.isUndef, St.setRow, AV.shutV, rebuild, isAggV, evBuild, fillCells, evCutOwn, dedup, nodupB, idx, AV.rows, AV.rowss, AV.mapO, AV.mapOs, firstRegion, gc, keptBoxes, keptRows, renameB, AV.boxes, AV.boxess, keep_18_3, leaf_some, isNormal, ifEv_bool, gate_bool, gateP_bool, gateQ_bool, pick_bool, SN, evCutRow, Int.reduceToNat, id_eq, Int.reduceBEq, Int.reduceLE, Int.reduceLT, SS, one_ne2, num_ne2, TIS, MDS, wanted, numbered, plainC, plainS, evEq, eqK, evBox, evAlloc, evStore, evLoad, evFieldAddr, behind, takeVal, AV.cells, AV.isCell, ofCells, ofCell, Value.cells, Nat.reduceAdd, Nat.reduceEqDiff, Nat.reduceLT, Nat.reduceLeDiff, Nat.reduceMul, Nat.reduceSub, reduceIte])))
      exact hI
  · simp -implicitDefEqProofs only [firstRegion]
    rw [keep_18_3]
    simp -implicitDefEqProofs only [QS, QN, QG, QO, SN, evCutRow, Int.reduceToNat, id_eq, Int.reduceBEq, Int.reduceLE, Int.reduceLT, SO, SH, frzO, frzE, AV.laid, AV.treeV, AV.treeC, St.laid, spent, AV.subs, AV.shut, AV.scal, AV.scals, evBuildSlice, elemsOf, zeroOK, evAppend, rowOf, noref, isRef, small, import_, AV.any, AV.anys, isPtr, finV, rename, noPtr, isBad, AV.isUndef, St.setRow, AV.shutV, rebuild, isAggV, evBuild, fillCells, evCutOwn, dedup, nodupB, idx, AV.rows, AV.rowss, AV.mapO, AV.mapOs, firstRegion, gc, keptBoxes, keptRows, renameB, AV.boxes, AV.boxess, SS, one_ne2, num_ne2, TIS, MDS, wanted, numbered, plainC, plainS, evEq, eqK, evBox, evAlloc, evStore, evLoad, evFieldAddr, behind, takeVal, AV.cells, AV.isCell, ofCells, ofCell, Value.cells, Nat.reduceAdd, Nat.reduceEqDiff, Nat.reduceLT, Nat.reduceLeDiff, Nat.reduceMul, Nat.reduceSub, reduceIte]
  · rw [atLoop]
end Go.Proofs.Ytbajieiodabdgaa.Flat
