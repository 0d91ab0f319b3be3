/-
A request is permitted exactly if a rule permits it and none refuses it: the law.
-/
import Derived.Test.YtigfcbcnfppmcaaGreatEqPI
import Derived.Test.YtigfcbcnfppmcaaGreatEqB
import Derived.Test.YtigfcbcnfppmcaaGreatEqX
set_option linter.unusedVariables false
set_option linter.unusedSimpArgs false
set_option maxRecDepth 10000
namespace Go.Proofs.YtigfcbcnfppmcaaGreat.Flat
def ynF (f : Rule → Bool) (b : Bool × Bool) (r : Rule) : Bool × Bool := if f r = true then (b.1 || (r.effect == 1), b.2 || (r.effect == 0)) else b
def ynStep (f : Rule → Bool) (_ : Nat) (r : Rule) (b : Bool × Bool) : Sum (Bool × Bool) (Bool × Bool) := .inr (ynF f b r)
theorem ynLoop (f : Rule → Bool) : ∀ (s : List Rule) (i : Nat) (b : Bool × Bool), loopL (ynStep f) id i s b = s.foldl (ynF f) b
  | [], _, _ => rfl
  | x :: r, i, b => by simp -implicitDefEqProofs only [loopL, ynStep, List.foldl_cons]; exact ynLoop f r (i + 1) _
theorem yn_no (f : Rule → Bool) : ∀ (s : List Rule) (y : Bool), (s.foldl (ynF f) (y, true)).2 = true
  | [], _ => rfl
  | r :: s, y => by
    simp -implicitDefEqProofs only [List.foldl_cons, ynF]
    split
    · rw [Bool.true_or]; exact yn_no f s _
    · exact yn_no f s y
theorem yn_pol (f : Rule → Bool) : ∀ (s : List Rule) (i : Nat) (y : Bool), loopL (polStep f) id i s y = ((s.foldl (ynF f) (y, false)).1 && !(s.foldl (ynF f) (y, false)).2)
  | [], _, y => by simp [loopL]
  | r :: s, i, y => by
    simp -implicitDefEqProofs only [loopL, polStep, List.foldl_cons, ynF]
    cases hf : f r
    · simp -implicitDefEqProofs only [Bool.false_eq_true, if_false]
      exact yn_pol f s (i + 1) y
    · simp -implicitDefEqProofs only [if_true, Bool.false_or]
      cases h0 : r.effect == 0
      · simp -implicitDefEqProofs only [Bool.false_eq_true, if_false]
        exact yn_pol f s (i + 1) _
      · simp -implicitDefEqProofs only [if_true]
        rw [yn_no]
        simp
theorem decide_yn (l : List Includes) (s : List Fact) (p : Policy) (q : Request) (h1 : isRequest q = true) (h2 : isPolicy p = true) :
    (decideBy l s p q == 1) = ((p.rules.foldl (ynF (ruleAt l s q)) (false, false)).1 && !(p.rules.foldl (ynF (ruleAt l s q)) (false, false)).2) := by
  unfold decideBy
  rw [h1, h2, Bool.and_self, if_pos rfl, decided_pol]
  exact yn_pol _ p.rules 0 false
theorem r_laws_big {fl : Bool} (k : Nat) (hk : 281474976710656 + 1 ≤ k) (bs : List Int) (hb : bs.length ≤ 140737488355328) :
    run E noExt k 6 [.sl fl (bs.map byteA)] [] = some (.bool (decide ((1048576 : Int) < (bs.length : Nat))), []) := by
  obtain ⟨k, rfl⟩ : ∃ j, k = j + 1 := ⟨k - 1, by omega⟩
  rw [run_succ rfl rfl, body_eq (nt := 6) (fn := Go.Proofs.Tryz.f6) (by kernel_rfl) rfl rfl rfl rfl rfl rfl rfl rfl]
  simp -implicitDefEqProofs only [QS, QN, QG, QO, Go.Proofs.Tryz.f6, SO, SH, frzO, frzE, AV.laid, AV.treeV, AV.treeC, St.laid, spent, AV.subs, AV.shut, AV.scal, AV.scals, evBuildSlice, elemsOf, zeroOK, evAppend, rowOf, noref, isRef, small, import_, AV.any, AV.anys, isPtr, finV, rename, noPtr, isBad, AV.isUndef, St.setRow, AV.shutV, rebuild, isAggV, evBuild, fillCells, evCutOwn, dedup, nodupB, idx, AV.rows, AV.rowss, AV.mapO, AV.mapOs, firstRegion, gc, keptBoxes, keptRows, renameB, AV.boxes, AV.boxess, SN, evCutRow, Int.reduceToNat, id_eq, Int.reduceBEq, Int.reduceLE, Int.reduceLT, SS, one_ne2, num_ne2, TIS, MDS, wanted, numbered, plainC, plainS, evEq, eqK, evBox, evAlloc, evStore, evLoad, evFieldAddr, behind, takeVal, AV.cells, AV.isCell, ofCells, ofCell, Value.cells, Nat.reduceAdd, Nat.reduceEqDiff, Nat.reduceLT, Nat.reduceLeDiff, Nat.reduceMul, Nat.reduceSub, reduceIte]
set_option maxHeartbeats 4000000 in
theorem law_FnDecided (bs : List Int) (hfit : FitL (fun _ => True) bs) (k : Nat) (hk : 1152921504606846976 ≤ k) : run E noExt k 4 [.sl false (bs.map byteA)] [] = some (.bool true, []) := by
  by_cases hlen : bs.length ≤ 1048576
  · have c0 := r_laws_big (fl := false) (k - 1) (by omega) bs (by omega)
    rw [decide_eq_false (by omega : ¬ (1048576 : Int) < (bs.length : Nat))] at c0
    have c1 := r_spec_DrawDecideBy (fl := false) (k - 1) (by omega) bs (by omega)
    have hll := caseD_len1 (bs := bs) (i := 0) (h := hashOf bs)
    have hsl := caseD_len (bs := bs) (i := 0) (h := hashOf bs)
    have hpw : (decP bs).1.w ≤ 1000 := by
      unfold Policy.w decP polPick
      split
      · exact Nat.le_trans anyPolicy_w (by decide)
      · exact Nat.le_trans policyD_w (by decide)
    generalize (caseD bs 0 (hashOf bs)).1 = l at *
    generalize (caseD bs 0 (hashOf bs)).2.1 = s at *
    generalize (decP bs).1 = p at *
    generalize decQ bs = q at *
    have hp1 : p.rules.length ≤ 1000 := Nat.le_trans (wl_length _ _) hpw
    have hpl : p.rules.length ≤ 140737488355328 := by omega
    have c2 := r_impl_DecideBy (fl := true) (f2 := true) (f3 := true) (f4 := true) (k - 1) (by omega) l (by omega) s (by omega) p (by omega) q
    have c3 := r_impl_IsRequest (fl := true) (k - 1) (by omega) q
    have c4 := r_impl_IsPolicy (fl := true) (k - 1) (by omega) p (by omega)
    have c5 := r_spec_IsRequest (fl := true) (k - 1) (by omega) q
    have c6 := r_spec_IsPolicy (fl := true) (k - 1) (by omega) p (by omega)
    have c7 := fun r => r_impl_IsFor (fl := true) (k - 1) (by omega) r q.action q.object
    have c8 : ∀ r ∈ p.rules, _ := fun r hr => r_impl_EvalCond (fl := true) (f2 := true) (f3 := true) (f4 := true) (k - 1) (by omega) l (by omega) s (by omega) r.cond (by have h8 := wl_mem (w := Rule.w) hr; have h9 : r.cond.w = Rule.w r := rfl; have h10 : wl Rule.w p.rules ≤ 1000 := hpw; omega) q
    have hyn := decide_yn l s p q
    have hdb : (isRequest q && isPolicy p) = false → decideBy l s p q = 0 := fun h => by unfold decideBy; rw [h]; rfl
    obtain ⟨k, rfl⟩ : ∃ j, k = j + 1 := ⟨k - 1, by omega⟩
    rw [run_succ rfl rfl, body_eq (nt := 101) (fn := Go.Proofs.Tryz.f4) (by kernel_rfl) rfl rfl rfl rfl rfl rfl rfl rfl]
    simp -implicitDefEqProofs only [Nat.add_sub_cancel, enc_Policy, enc_Request, enc_Rule, enc_Cond] at c0 c1 c2 c3 c4 c5 c6 c7 c8
    cases h1 : isRequest q
    · have hd0 : decideBy l s p q = 0 := hdb (by rw [h1]; rfl)
      simp -implicitDefEqProofs only [h1, hd0] at c2 c3 c5
      simp -implicitDefEqProofs only [QS, QN, QG, QO, h1, hd0, Go.Proofs.Tryz.f4, c0, c1, c2, c3, c5, scals_Fact, shuts_Fact, tscals_Includes, shuts_Includes, shuts_Rule, SO, SH, frzO, frzE, AV.laid, AV.treeV, AV.treeC, St.laid, spent, AV.subs, AV.shut, AV.scal, AV.scals, evBuildSlice, elemsOf, zeroOK, evAppend, rowOf, noref, isRef, small, import_, AV.any, AV.anys, isPtr, finV, rename, noPtr, isBad, AV.isUndef, St.setRow, AV.shutV, rebuild, isAggV, evBuild, fillCells, evCutOwn, dedup, nodupB, idx, AV.rows, AV.rowss, AV.mapO, AV.mapOs, firstRegion, gc, keptBoxes, keptRows, renameB, AV.boxes, AV.boxess, SN, evCutRow, Int.reduceToNat, id_eq, Int.reduceBEq, Int.reduceLE, Int.reduceLT, SS, one_ne2, num_ne2, TIS, MDS, wanted, numbered, plainC, plainS, evEq, eqK, evBox, evAlloc, evStore, evLoad, evFieldAddr, behind, takeVal, AV.cells, AV.isCell, ofCells, ofCell, Value.cells, Nat.reduceAdd, Nat.reduceEqDiff, Nat.reduceLT, Nat.reduceLeDiff, Nat.reduceMul, Nat.reduceSub, reduceIte]
      trace_state
    · cases h2 : isPolicy p
      · have hd0 : decideBy l s p q = 0 := hdb (by rw [h1, h2]; rfl)
        simp -implicitDefEqProofs only [h1, h2, hd0] at c2 c3 c4 c5 c6
        simp -implicitDefEqProofs only [QS, QN, QG, QO, h1, h2, hd0, Go.Proofs.Tryz.f4, c0, c1, c2, c3, c4, c5, c6, scals_Fact, shuts_Fact, tscals_Includes, shuts_Includes, shuts_Rule, SO, SH, frzO, frzE, AV.laid, AV.treeV, AV.treeC, St.laid, spent, AV.subs, AV.shut, AV.scal, AV.scals, evBuildSlice, elemsOf, zeroOK, evAppend, rowOf, noref, isRef, small, import_, AV.any, AV.anys, isPtr, finV, rename, noPtr, isBad, AV.isUndef, St.setRow, AV.shutV, rebuild, isAggV, evBuild, fillCells, evCutOwn, dedup, nodupB, idx, AV.rows, AV.rowss, AV.mapO, AV.mapOs, firstRegion, gc, keptBoxes, keptRows, renameB, AV.boxes, AV.boxess, SN, evCutRow, Int.reduceToNat, id_eq, Int.reduceBEq, Int.reduceLE, Int.reduceLT, SS, one_ne2, num_ne2, TIS, MDS, wanted, numbered, plainC, plainS, evEq, eqK, evBox, evAlloc, evStore, evLoad, evFieldAddr, behind, takeVal, AV.cells, AV.isCell, ofCells, ofCell, Value.cells, Nat.reduceAdd, Nat.reduceEqDiff, Nat.reduceLT, Nat.reduceLeDiff, Nat.reduceMul, Nat.reduceSub, reduceIte]
        trace_state
      · have hy := hyn h1 h2
        simp -implicitDefEqProofs only [h1, h2] at c3 c4
        simp -implicitDefEqProofs only [QS, QN, QG, QO, h1, h2, Go.Proofs.Tryz.f4, c0, c1, c2, c3, c4, scals_Fact, shuts_Fact, tscals_Includes, shuts_Includes, shuts_Rule, SO, SH, frzO, frzE, AV.laid, AV.treeV, AV.treeC, St.laid, spent, AV.subs, AV.shut, AV.scal, AV.scals, evBuildSlice, elemsOf, zeroOK, evAppend, rowOf, noref, isRef, small, import_, AV.any, AV.anys, isPtr, finV, rename, noPtr, isBad, AV.isUndef, St.setRow, AV.shutV, rebuild, isAggV, evBuild, fillCells, evCutOwn, dedup, nodupB, idx, AV.rows, AV.rowss, AV.mapO, AV.mapOs, firstRegion, gc, keptBoxes, keptRows, renameB, AV.boxes, AV.boxess, SN, evCutRow, Int.reduceToNat, id_eq, Int.reduceBEq, Int.reduceLE, Int.reduceLT, SS, one_ne2, num_ne2, TIS, MDS, wanted, numbered, plainC, plainS, evEq, eqK, evBox, evAlloc, evStore, evLoad, evFieldAddr, behind, takeVal, AV.cells, AV.isCell, ofCells, ofCell, Value.cells, Nat.reduceAdd, Nat.reduceEqDiff, Nat.reduceLT, Nat.reduceLeDiff, Nat.reduceMul, Nat.reduceSub, reduceIte]
        clear c0 c1 c2 c3 c4 c5 c6 hyn hdb
        rw [ev_loop]
        refine Eq.trans (loop_list (Q := fun (R : Bool × Bool) x => R = p.rules.foldl (ynF (ruleAt l s q)) (false, false) → thenEnd E.P [] _ 0 (thenEv E _ _ _ _ _ (outOf 0 x)) = some (.bool true, [])) p.rules (ynStep (ruleAt l s q)) id
          (fun i b => { sl := [(3, .own 0 false 125 2 (l.map (Includes.enc true))), (4, .own 1 false 74 6 (s.map (Fact.enc true))), (5, .ptr 0 0), (6, .ptr 1 0), (7, .int .i64 (decideBy l s p q)), (8, .bool b.1), (9, .bool b.2), (10, .int .i64 (i : Nat))], bx := [(0, [.int .i64 p.version, .own 2 false 53 7 (p.rules.map (Rule.enc true))]), (1, [.int .i64 q.person, .int .i64 q.device, .int .i64 q.program, .int .i64 q.action, .int .i64 q.object, .int .i64 q.now])], nx := 5, nt := 101 }) (fun _ _ => True) (false, false) ?_ ?_ (by omega) trivial ?_ (ynLoop _ p.rules 0 _)) ?_
        · rintro ⟨y, n⟩ _
          have hlt : ¬ ((p.rules.length : Nat) : Int) < ((p.rules.length : Nat) : Int) := by omega
          cases y <;> cases n
          all_goals
            simp -implicitDefEqProofs only [QS, QN, QG, QO, hlt, SO, SH, frzO, frzE, AV.laid, AV.treeV, AV.treeC, St.laid, spent, AV.subs, AV.shut, AV.scal, AV.scals, evBuildSlice, elemsOf, zeroOK, evAppend, rowOf, noref, isRef, small, import_, AV.any, AV.anys, isPtr, finV, rename, noPtr, isBad, AV.isUndef, St.setRow, AV.shutV, rebuild, isAggV, evBuild, fillCells, evCutOwn, dedup, nodupB, idx, AV.rows, AV.rowss, AV.mapO, AV.mapOs, firstRegion, gc, keptBoxes, keptRows, renameB, AV.boxes, AV.boxess, leaf_some, isNormal, ifEv_bool, gate_bool, gateP_bool, gateQ_bool, pick_bool, SN, evCutRow, Int.reduceToNat, id_eq, Int.reduceBEq, Int.reduceLE, Int.reduceLT, SS, one_ne2, num_ne2, TIS, MDS, wanted, numbered, plainC, plainS, evEq, eqK, evBox, evAlloc, evStore, evLoad, evFieldAddr, behind, takeVal, AV.cells, AV.isCell, ofCells, ofCell, Value.cells, Nat.reduceAdd, Nat.reduceEqDiff, Nat.reduceLT, Nat.reduceLeDiff, Nat.reduceMul, Nat.reduceSub, reduceIte]
            intro hR
            rw [← hR] at hy
            simp -implicitDefEqProofs only [Bool.and_self, Bool.and_true, Bool.and_false, Bool.true_and, Bool.false_and, Bool.not_true, Bool.not_false] at hy
            rw [hy]
            all_goals (try rfl)
        · rintro pre r r' ⟨y, n⟩ hs' _
          have hx := (at_row hs' hpl).1; have hc := (at_row hs' hpl).2.1; have hlt := (at_row hs' hpl).2.2.1; have hw1 := (at_row hs' hpl).2.2.2.1; have hl9 := (at_row hs' hpl).2.2.2.2
          clear hs'
          have d7 := c7 r
          have d8 := c8 r hc
          have hru : ruleAt l s q r = (isFor r q.action q.object && evalAt l s q r.cond) := rfl
          simp -implicitDefEqProofs only [ynStep, ynF, hru]
          generalize isFor r q.action q.object = v1 at *
          generalize evalAt l s q r.cond = v2 at *
          cases v1
          ·
            simp -implicitDefEqProofs only [QS, QN, QG, QO, d7, hx, hlt, hw1, enc_Rule, shuts_Rule, shuts_Fact, shuts_Includes, plan_4_12, SO, SH, frzO, frzE, AV.laid, AV.treeV, AV.treeC, St.laid, spent, AV.subs, AV.shut, AV.scal, AV.scals, evBuildSlice, elemsOf, zeroOK, evAppend, rowOf, noref, isRef, small, import_, AV.any, AV.anys, isPtr, finV, rename, noPtr, isBad, AV.isUndef, St.setRow, AV.shutV, rebuild, isAggV, evBuild, fillCells, evCutOwn, dedup, nodupB, idx, AV.rows, AV.rowss, AV.mapO, AV.mapOs, firstRegion, gc, keptBoxes, keptRows, renameB, AV.boxes, AV.boxess, keep_4_10, leaf_some, isNormal, ifEv_bool, gate_bool, gateP_bool, gateQ_bool, pick_bool, SN, evCutRow, Int.reduceToNat, id_eq, Int.reduceBEq, Int.reduceLE, Int.reduceLT, SS, one_ne2, num_ne2, TIS, MDS, wanted, numbered, plainC, plainS, evEq, eqK, evBox, evAlloc, evStore, evLoad, evFieldAddr, behind, takeVal, AV.cells, AV.isCell, ofCells, ofCell, Value.cells, Nat.reduceAdd, Nat.reduceEqDiff, Nat.reduceLT, Nat.reduceLeDiff, Nat.reduceMul, Nat.reduceSub, reduceIte]
            try trace_state
          · cases v2
            ·
              simp -implicitDefEqProofs only [QS, QN, QG, QO, d7, d8, hx, hlt, hw1, enc_Rule, shuts_Rule, shuts_Fact, shuts_Includes, plan_4_12, SO, SH, frzO, frzE, AV.laid, AV.treeV, AV.treeC, St.laid, spent, AV.subs, AV.shut, AV.scal, AV.scals, evBuildSlice, elemsOf, zeroOK, evAppend, rowOf, noref, isRef, small, import_, AV.any, AV.anys, isPtr, finV, rename, noPtr, isBad, AV.isUndef, St.setRow, AV.shutV, rebuild, isAggV, evBuild, fillCells, evCutOwn, dedup, nodupB, idx, AV.rows, AV.rowss, AV.mapO, AV.mapOs, firstRegion, gc, keptBoxes, keptRows, renameB, AV.boxes, AV.boxess, keep_4_10, leaf_some, isNormal, ifEv_bool, gate_bool, gateP_bool, gateQ_bool, pick_bool, SN, evCutRow, Int.reduceToNat, id_eq, Int.reduceBEq, Int.reduceLE, Int.reduceLT, SS, one_ne2, num_ne2, TIS, MDS, wanted, numbered, plainC, plainS, evEq, eqK, evBox, evAlloc, evStore, evLoad, evFieldAddr, behind, takeVal, AV.cells, AV.isCell, ofCells, ofCell, Value.cells, Nat.reduceAdd, Nat.reduceEqDiff, Nat.reduceLT, Nat.reduceLeDiff, Nat.reduceMul, Nat.reduceSub, reduceIte]
              try trace_state
            · cases y <;> cases n
              all_goals
                simp -implicitDefEqProofs only [QS, QN, QG, QO, d7, d8, hx, hlt, hw1, enc_Rule, shuts_Rule, shuts_Fact, shuts_Includes, plan_4_12, SO, SH, frzO, frzE, AV.laid, AV.treeV, AV.treeC, St.laid, spent, AV.subs, AV.shut, AV.scal, AV.scals, evBuildSlice, elemsOf, zeroOK, evAppend, rowOf, noref, isRef, small, import_, AV.any, AV.anys, isPtr, finV, rename, noPtr, isBad, AV.isUndef, St.setRow, AV.shutV, rebuild, isAggV, evBuild, fillCells, evCutOwn, dedup, nodupB, idx, AV.rows, AV.rowss, AV.mapO, AV.mapOs, firstRegion, gc, keptBoxes, keptRows, renameB, AV.boxes, AV.boxess, keep_4_10, leaf_some, isNormal, ifEv_bool, gate_bool, gateP_bool, gateQ_bool, pick_bool, SN, evCutRow, Int.reduceToNat, id_eq, Int.reduceBEq, Int.reduceLE, Int.reduceLT, SS, one_ne2, num_ne2, TIS, MDS, wanted, numbered, plainC, plainS, evEq, eqK, evBox, evAlloc, evStore, evLoad, evFieldAddr, behind, takeVal, AV.cells, AV.isCell, ofCells, ofCell, Value.cells, Nat.reduceAdd, Nat.reduceEqDiff, Nat.reduceLT, Nat.reduceLeDiff, Nat.reduceMul, Nat.reduceSub, reduceIte]
                try trace_state
        · simp -implicitDefEqProofs only [firstRegion]
          rw [keep_4_10]
          simp -implicitDefEqProofs only [QS, QN, QG, QO, SN, evCutRow, Int.reduceToNat, id_eq, Int.reduceBEq, Int.reduceLE, Int.reduceLT, SO, SH, frzO, frzE, AV.laid, AV.treeV, AV.treeC, St.laid, spent, AV.subs, AV.shut, AV.scal, AV.scals, evBuildSlice, elemsOf, zeroOK, evAppend, rowOf, noref, isRef, small, import_, AV.any, AV.anys, isPtr, finV, rename, noPtr, isBad, AV.isUndef, St.setRow, AV.shutV, rebuild, isAggV, evBuild, fillCells, evCutOwn, dedup, nodupB, idx, AV.rows, AV.rowss, AV.mapO, AV.mapOs, firstRegion, gc, keptBoxes, keptRows, renameB, AV.boxes, AV.boxess, SS, one_ne2, num_ne2, TIS, MDS, wanted, numbered, plainC, plainS, evEq, eqK, evBox, evAlloc, evStore, evLoad, evFieldAddr, behind, takeVal, AV.cells, AV.isCell, ofCells, ofCell, Value.cells, Nat.reduceAdd, Nat.reduceEqDiff, Nat.reduceLT, Nat.reduceLeDiff, Nat.reduceMul, Nat.reduceSub, reduceIte]
          try trace_state
        · rfl
  · have hl : bs.length ≤ 140737488355328 := hfit.1
    have c0 := r_laws_big (fl := false) (k - 1) (by omega) bs hl
    rw [decide_eq_true (by omega : (1048576 : Int) < (bs.length : Nat))] at c0
    obtain ⟨k, rfl⟩ : ∃ j, k = j + 1 := ⟨k - 1, by omega⟩
    rw [run_succ rfl rfl, body_eq (nt := 101) (fn := Go.Proofs.Tryz.f4) (by kernel_rfl) rfl rfl rfl rfl rfl rfl rfl rfl]
    simp -implicitDefEqProofs only [Nat.add_sub_cancel] at c0
    simp -implicitDefEqProofs only [QS, QN, QG, QO, Go.Proofs.Tryz.f4, c0, SO, SH, frzO, frzE, AV.laid, AV.treeV, AV.treeC, St.laid, spent, AV.subs, AV.shut, AV.scal, AV.scals, evBuildSlice, elemsOf, zeroOK, evAppend, rowOf, noref, isRef, small, import_, AV.any, AV.anys, isPtr, finV, rename, noPtr, isBad, AV.isUndef, St.setRow, AV.shutV, rebuild, isAggV, evBuild, fillCells, evCutOwn, dedup, nodupB, idx, AV.rows, AV.rowss, AV.mapO, AV.mapOs, firstRegion, gc, keptBoxes, keptRows, renameB, AV.boxes, AV.boxess, SN, evCutRow, Int.reduceToNat, id_eq, Int.reduceBEq, Int.reduceLE, Int.reduceLT, SS, one_ne2, num_ne2, TIS, MDS, wanted, numbered, plainC, plainS, evEq, eqK, evBox, evAlloc, evStore, evLoad, evFieldAddr, behind, takeVal, AV.cells, AV.isCell, ofCells, ofCell, Value.cells, Nat.reduceAdd, Nat.reduceEqDiff, Nat.reduceLT, Nat.reduceLeDiff, Nat.reduceMul, Nat.reduceSub, reduceIte]
end Go.Proofs.YtigfcbcnfppmcaaGreat.Flat
