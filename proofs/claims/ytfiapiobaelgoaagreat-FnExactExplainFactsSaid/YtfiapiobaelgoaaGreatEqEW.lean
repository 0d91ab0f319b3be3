/-
ExplainFacts: both sides.
-/
import Derived.Test.YtfiapiobaelgoaaGreatEqEX
set_option linter.unusedVariables false
set_option linter.unusedSimpArgs false
set_option maxRecDepth 10000
namespace Go.Proofs.YtfiapiobaelgoaaGreat.Flat
noncomputable def sufF (l : List Includes) (s : List Fact) (p : Policy) (q : Request) (kp : List Int) : Bool := suffices_ l s p q kp
noncomputable def explain (l : List Includes) (s : List Fact) (p : Policy) (q : Request) : List Int := expl (sufF l s p q) (idxL s.length)
theorem range_at2 {n : Nat} {pre r : List Nat} {x : Nat} (h : List.range n = pre ++ x :: r) : x = pre.length ∧ pre.length < n := by
  have h1 : (List.range n)[pre.length]? = some x := by rw [h]; simp
  obtain ⟨h2, h3⟩ := List.getElem?_eq_some_iff.1 h1
  rw [List.getElem_range] at h3
  simp at h2
  exact ⟨h3.symm, h2⟩
noncomputable def iNxt (f : List Int → Bool) (kl : List Int) : Option (List Int) := if (pass f kl).length < kl.length then some (pass f kl) else none
set_option maxHeartbeats 8000000 in
theorem r_impl_ExplainFacts (k : Nat) (hk : 884940186000000 + 20 ≤ k) (l : List Includes) (hl : l.length ≤ 140737488355328) (s : List Fact) (hs0 : s.length ≤ 1099511627776) (p : Policy) (hp : p.w ≤ 1099511627776) (q : Request) :
    run E noExt k 13 [.sl true (l.map (Includes.enc true)), .sl true (s.map (Fact.enc true)), p.enc true, q.enc true] [] = some (.own 0 false 3 1 ((explain l s p q).map (AV.int .i64)), []) := by
  have hs : s.length ≤ 140737488355328 := by omega
  have c1 := fun kp hkp x => r_impl_WithoutIndex (fl := true) (k - 1) (by omega) kp hkp x
  have c2 := fun kp hkp => r_impl_Suffices (fl := true) (f2 := true) (f3 := true) (f4 := true) (f5 := true) (k - 1) (by omega) l hl s hs0 p hp q kp hkp
  have e2 : ∀ kp, suffices_ l s p q kp = sufF l s p q kp := fun _ => rfl
  simp -implicitDefEqProofs only [e2] at c2
  unfold explain
  obtain ⟨k, rfl⟩ : ∃ j, k = j + 1 := ⟨k - 1, by omega⟩
  rw [run_succ rfl rfl, body_eq (nt := 52) (fn := Go.Proofs.Tryz.f13) (by kernel_rfl) rfl rfl rfl rfl rfl rfl rfl rfl]
  simp -implicitDefEqProofs only [Nat.add_sub_cancel, enc_Policy, enc_Request] at c1 c2
  simp -implicitDefEqProofs only [QS, QN, QO, Go.Proofs.Tryz.f13, enc_Policy, enc_Request, SO, SH, frzO, frzE, AV.laid, AV.treeV, AV.treeC, St.laid, spent, AV.subs, AV.shut, AV.scal, AV.scals, evBuildSlice, elemsOf, zeroOK, evAppend, rowOf, noref, isRef, small, import_, AV.any, AV.anys, isPtr, finV, rename, noPtr, isBad, AV.isUndef, St.setRow, AV.shutV, rebuild, isAggV, evBuild, fillCells, evCutOwn, dedup, nodupB, idx, AV.rows, AV.rowss, AV.mapO, AV.mapOs, SN, evCutRow, Int.reduceToNat, id_eq, Int.reduceBEq, Int.reduceLE, Int.reduceLT, SS, one_ne2, num_ne2, TIS, MDS, wanted, numbered, plainC, plainS, evEq, eqK, evBox, evAlloc, evStore, evLoad, evFieldAddr, behind, takeVal, AV.cells, AV.isCell, ofCells, ofCell, Value.cells, Nat.reduceAdd, Nat.reduceEqDiff, Nat.reduceLT, Nat.reduceLeDiff, Nat.reduceMul, Nat.reduceSub, reduceIte]
  rw [ev_loop]
  refine loop_list (Q := fun (_ : Unit) z => thenEnd E.P _ _ 0 (thenEv E _ _ _ _ _ (outOf 0 z)) = some (.own 0 false 3 1 ((expl (sufF l s p q) (idxL s.length)).map (AV.int .i64)), [])) s (fun _ _ _ => .inr ()) id
    (fun i _ => { sl := [(0, .sl true (l.map (Includes.enc true))), (1, .sl true (s.map (Fact.enc true))), (6, .ptr 0 0), (7, .ptr 1 0), (9, .own 0 false 3 1 ((idxL i).map (AV.int .i64))), (16, .int .i64 (s.length : Nat)), (17, .int .i64 (i : Nat))], bx := [(0, [.int .i64 p.version, .sl true (p.rules.map (Rule.enc true))]), (1, [.int .i64 q.person, .int .i64 q.device, .int .i64 q.program, .int .i64 q.action, .int .i64 q.object, .int .i64 q.now])], nx := 3, nt := 52 })
    (fun _ _ => True) () ?_ ?_ ?_ trivial ?_
  · intro _ _
    simp -implicitDefEqProofs only [QS, QN, QO, leaf_some, isNormal, ifEv_bool, SO, SH, frzO, frzE, AV.laid, AV.treeV, AV.treeC, St.laid, spent, AV.subs, AV.shut, AV.scal, AV.scals, evBuildSlice, elemsOf, zeroOK, evAppend, rowOf, noref, isRef, small, import_, AV.any, AV.anys, isPtr, finV, rename, noPtr, isBad, AV.isUndef, St.setRow, AV.shutV, rebuild, isAggV, evBuild, fillCells, evCutOwn, dedup, nodupB, idx, AV.rows, AV.rowss, AV.mapO, AV.mapOs, SN, evCutRow, Int.reduceToNat, id_eq, Int.reduceBEq, Int.reduceLE, Int.reduceLT, SS, one_ne2, num_ne2, TIS, MDS, wanted, numbered, plainC, plainS, evEq, eqK, evBox, evAlloc, evStore, evLoad, evFieldAddr, behind, takeVal, AV.cells, AV.isCell, ofCells, ofCell, Value.cells, Nat.reduceAdd, Nat.reduceEqDiff, Nat.reduceLT, Nat.reduceLeDiff, Nat.reduceMul, Nat.reduceSub, reduceIte]
    rw [ev_loop]
    generalize hkl : idxL s.length = kl0
    have hA : Asc kl0 := by rw [← hkl]; exact idxL_asc _
    have hL : kl0.length ≤ 1099511627776 := by rw [← hkl, idxL_len]; omega
    clear hkl
    refine loop_while (Q := fun (g : List Int) z => thenEnd E.P _ _ 0 (outOf 2 z) = some (.own 0 false 3 1 (g.map (AV.int .i64)), [])) (iNxt (sufF l s p q)) (expl (sufF l s p q))
      (fun kl => { sl := [(0, .sl true (l.map (Includes.enc true))), (1, .sl true (s.map (Fact.enc true))), (6, .ptr 0 0), (7, .ptr 1 0), (9, .own 0 false 3 1 (kl.map (AV.int .i64)))], bx := [(0, [.int .i64 p.version, .sl true (p.rules.map (Rule.enc true))]), (1, [.int .i64 q.person, .int .i64 q.device, .int .i64 q.program, .int .i64 q.action, .int .i64 q.object, .int .i64 q.now])], nx := 3, nt := 52 })
      (fun kl => Asc kl ∧ kl.length ≤ 1099511627776) (fun kl => kl.length) kl0 ?_ ?_ ?_ ⟨hA, hL⟩ ?_
    · intro kl ⟨hk1, hk2⟩
      have hw1 : IntKind.i64.wrap ((kl.length : Int) - 1) = (kl.length : Int) - 1 := IntWalk.i64_in _ (by omega)
      simp -implicitDefEqProofs only [QS, QN, QO, hw1, leaf_some, isNormal, ifEv_bool, SO, SH, frzO, frzE, AV.laid, AV.treeV, AV.treeC, St.laid, spent, AV.subs, AV.shut, AV.scal, AV.scals, evBuildSlice, elemsOf, zeroOK, evAppend, rowOf, noref, isRef, small, import_, AV.any, AV.anys, isPtr, finV, rename, noPtr, isBad, AV.isUndef, St.setRow, AV.shutV, rebuild, isAggV, evBuild, fillCells, evCutOwn, dedup, nodupB, idx, AV.rows, AV.rowss, AV.mapO, AV.mapOs, SN, evCutRow, Int.reduceToNat, id_eq, Int.reduceBEq, Int.reduceLE, Int.reduceLT, SS, one_ne2, num_ne2, TIS, MDS, wanted, numbered, plainC, plainS, evEq, eqK, evBox, evAlloc, evStore, evLoad, evFieldAddr, behind, takeVal, AV.cells, AV.isCell, ofCells, ofCell, Value.cells, Nat.reduceAdd, Nat.reduceEqDiff, Nat.reduceLT, Nat.reduceLeDiff, Nat.reduceMul, Nat.reduceSub, reduceIte]
      rw [ev_loop]
      refine loop_list (Q := fun g z => g = pass (sufF l s p q) kl → Leaf (outOf 3 (thenEv E _ _ _ _ _ (outOf 4 z))) _) kl.reverse (iStep (sufF l s p q) kl) id
        (fun i suf => { sl := [(0, .sl true (l.map (Includes.enc true))), (1, .sl true (s.map (Fact.enc true))), (6, .ptr 0 0), (7, .ptr 1 0), (9, .own 0 false 3 1 (((kl.reverse.drop i).reverse ++ suf).map (AV.int .i64))), (11, .int .i64 (kl.length : Nat)), (12, .int .i64 ((kl.length : Int) - 1 - (i : Nat)))], bx := [(0, [.int .i64 p.version, .sl true (p.rules.map (Rule.enc true))]), (1, [.int .i64 q.person, .int .i64 q.device, .int .i64 q.program, .int .i64 q.action, .int .i64 q.object, .int .i64 q.now])], nx := 3, nt := 52 })
        (fun i suf => ((kl.reverse.drop i).reverse ++ suf).Sublist kl) [] ?_ ?_ ?_ (by simp) ?_ (iLoop (sufF l s p q) kl kl.reverse 0 [] rfl)
      · intro suf hsub
        have hdr : kl.reverse.drop kl.length = [] := List.drop_of_length_le (by simp)
        have hneg : decide ((kl.length : Int) - 1 - ((kl.length : Nat) : Int) ≥ 0) = false := decide_eq_false (by omega)
        simp -implicitDefEqProofs only [QS, QN, QO, List.length_reverse, hdr, hneg, leaf_some, isNormal, ifEv_bool, List.reverse_nil, SO, SH, frzO, frzE, AV.laid, AV.treeV, AV.treeC, St.laid, spent, AV.subs, AV.shut, AV.scal, AV.scals, evBuildSlice, elemsOf, zeroOK, evAppend, rowOf, noref, isRef, small, import_, AV.any, AV.anys, isPtr, finV, rename, noPtr, isBad, AV.isUndef, St.setRow, AV.shutV, rebuild, isAggV, evBuild, fillCells, evCutOwn, dedup, nodupB, idx, AV.rows, AV.rowss, AV.mapO, AV.mapOs, SN, evCutRow, Int.reduceToNat, id_eq, Int.reduceBEq, Int.reduceLE, Int.reduceLT, SS, one_ne2, num_ne2, TIS, MDS, wanted, numbered, plainC, plainS, evEq, eqK, evBox, evAlloc, evStore, evLoad, evFieldAddr, behind, takeVal, AV.cells, AV.isCell, ofCells, ofCell, Value.cells, Nat.reduceAdd, Nat.reduceEqDiff, Nat.reduceLT, Nat.reduceLeDiff, Nat.reduceMul, Nat.reduceSub, reduceIte]
        intro he
        subst he
        by_cases h : (pass (sufF l s p q) kl).length < kl.length
        · have hb : (((pass (sufF l s p q) kl).length : Int) == (kl.length : Int)) = false := by rw [beq_eq_false_iff_ne]; omega
          have hn : iNxt (sufF l s p q) kl = some (pass (sufF l s p q) kl) := if_pos h
          rw [hn]
          simp -implicitDefEqProofs only [QS, QN, QG, QO, hb, SO, SH, frzO, frzE, AV.laid, AV.treeV, AV.treeC, St.laid, spent, AV.subs, AV.shut, AV.scal, AV.scals, evBuildSlice, elemsOf, zeroOK, evAppend, rowOf, noref, isRef, small, import_, AV.any, AV.anys, isPtr, finV, rename, noPtr, isBad, AV.isUndef, St.setRow, AV.shutV, rebuild, isAggV, evBuild, fillCells, evCutOwn, dedup, nodupB, idx, AV.rows, AV.rowss, AV.mapO, AV.mapOs, firstRegion, gc, keptBoxes, keptRows, renameB, AV.boxes, AV.boxess, keep_13_7, leaf_some, isNormal, ifEv_bool, gate_bool, gateP_bool, gateQ_bool, pick_bool, SN, evCutRow, Int.reduceToNat, id_eq, Int.reduceBEq, Int.reduceLE, Int.reduceLT, SS, one_ne2, num_ne2, TIS, MDS, wanted, numbered, plainC, plainS, evEq, eqK, evBox, evAlloc, evStore, evLoad, evFieldAddr, behind, takeVal, AV.cells, AV.isCell, ofCells, ofCell, Value.cells, Nat.reduceAdd, Nat.reduceEqDiff, Nat.reduceLT, Nat.reduceLeDiff, Nat.reduceMul, Nat.reduceSub, reduceIte]
          repeat' (split <;> (rename_i h; (try simp -implicitDefEqProofs only [Bool.not_eq_true', Bool.not_eq_false', decide_eq_true_eq, decide_eq_false_iff_not] at h); (try simp -implicitDefEqProofs only [QS, QN, QG, QO, *, hb, SO, SH, frzO, frzE, AV.laid, AV.treeV, AV.treeC, St.laid, spent, AV.subs, AV.shut, AV.scal, AV.scals, evBuildSlice, elemsOf, zeroOK, evAppend, rowOf, noref, isRef, small, import_, AV.any, AV.anys, isPtr, finV, rename, noPtr, isBad, AV.isUndef, St.setRow, AV.shutV, rebuild, isAggV, evBuild, fillCells, evCutOwn, dedup, nodupB, idx, AV.rows, AV.rowss, AV.mapO, AV.mapOs, firstRegion, gc, keptBoxes, keptRows, renameB, AV.boxes, AV.boxess, keep_13_7, leaf_some, isNormal, ifEv_bool, gate_bool, gateP_bool, gateQ_bool, pick_bool, SN, evCutRow, Int.reduceToNat, id_eq, Int.reduceBEq, Int.reduceLE, Int.reduceLT, SS, one_ne2, num_ne2, TIS, MDS, wanted, numbered, plainC, plainS, evEq, eqK, evBox, evAlloc, evStore, evLoad, evFieldAddr, behind, takeVal, AV.cells, AV.isCell, ofCells, ofCell, Value.cells, Nat.reduceAdd, Nat.reduceEqDiff, Nat.reduceLT, Nat.reduceLeDiff, Nat.reduceMul, Nat.reduceSub, reduceIte])))
        · have hsame := pass_same (sufF l s p q) h
          have hn : iNxt (sufF l s p q) kl = none := if_neg h
          rw [hn, expl_end _ h, hsame]
          have hb : ((kl.length : Int) == (kl.length : Int)) = true := by simp
          simp -implicitDefEqProofs only [QS, QN, QG, QO, hb, SO, SH, frzO, frzE, AV.laid, AV.treeV, AV.treeC, St.laid, spent, AV.subs, AV.shut, AV.scal, AV.scals, evBuildSlice, elemsOf, zeroOK, evAppend, rowOf, noref, isRef, small, import_, AV.any, AV.anys, isPtr, finV, rename, noPtr, isBad, AV.isUndef, St.setRow, AV.shutV, rebuild, isAggV, evBuild, fillCells, evCutOwn, dedup, nodupB, idx, AV.rows, AV.rowss, AV.mapO, AV.mapOs, firstRegion, gc, keptBoxes, keptRows, renameB, AV.boxes, AV.boxess, keep_13_7, leaf_some, isNormal, ifEv_bool, gate_bool, gateP_bool, gateQ_bool, pick_bool, SN, evCutRow, Int.reduceToNat, id_eq, Int.reduceBEq, Int.reduceLE, Int.reduceLT, SS, one_ne2, num_ne2, TIS, MDS, wanted, numbered, plainC, plainS, evEq, eqK, evBox, evAlloc, evStore, evLoad, evFieldAddr, behind, takeVal, AV.cells, AV.isCell, ofCells, ofCell, Value.cells, Nat.reduceAdd, Nat.reduceEqDiff, Nat.reduceLT, Nat.reduceLeDiff, Nat.reduceMul, Nat.reduceSub, reduceIte]
          repeat' (split <;> (rename_i h; (try simp -implicitDefEqProofs only [Bool.not_eq_true', Bool.not_eq_false', decide_eq_true_eq, decide_eq_false_iff_not] at h); (try simp -implicitDefEqProofs only [QS, QN, QG, QO, *, hb, SO, SH, frzO, frzE, AV.laid, AV.treeV, AV.treeC, St.laid, spent, AV.subs, AV.shut, AV.scal, AV.scals, evBuildSlice, elemsOf, zeroOK, evAppend, rowOf, noref, isRef, small, import_, AV.any, AV.anys, isPtr, finV, rename, noPtr, isBad, AV.isUndef, St.setRow, AV.shutV, rebuild, isAggV, evBuild, fillCells, evCutOwn, dedup, nodupB, idx, AV.rows, AV.rowss, AV.mapO, AV.mapOs, firstRegion, gc, keptBoxes, keptRows, renameB, AV.boxes, AV.boxess, keep_13_7, leaf_some, isNormal, ifEv_bool, gate_bool, gateP_bool, gateQ_bool, pick_bool, SN, evCutRow, Int.reduceToNat, id_eq, Int.reduceBEq, Int.reduceLE, Int.reduceLT, SS, one_ne2, num_ne2, TIS, MDS, wanted, numbered, plainC, plainS, evEq, eqK, evBox, evAlloc, evStore, evLoad, evFieldAddr, behind, takeVal, AV.cells, AV.isCell, ofCells, ofCell, Value.cells, Nat.reduceAdd, Nat.reduceEqDiff, Nat.reduceLT, Nat.reduceLeDiff, Nat.reduceMul, Nat.reduceSub, reduceIte])))
      · intro pre x r suf hs' hsub
        have hd : kl.reverse.drop pre.length = x :: r := by rw [hs']; simp
        have hd1 : kl.reverse.drop (pre.length + 1) = r := by rw [hs']; simp
        have hlen : pre.length + (r.length + 1) = kl.length := by have := congrArg List.length hs'; simp at this; omega
        have hk9 : (kl.reverse.drop pre.length).reverse ++ suf = r.reverse ++ x :: suf := by rw [hd]; simp
        have hk10 : (kl.reverse.drop (pre.length + 1)).reverse = r.reverse := by rw [hd1]
        rw [hk9] at hsub
        have hnd := asc_nodup (asc_sub hk1 hsub)
        have hwi := without_mid hnd
        have hkl := hsub.length_le
        have c3 := c1 (r.reverse ++ x :: suf) (by omega) x
        rw [hwi] at c3
        have hsub2 : (r.reverse ++ suf).Sublist kl := (List.Sublist.append_left (List.sublist_cons_self _ _) _).trans hsub
        have hkl2 := hsub2.length_le
        have c4 := c2 (r.reverse ++ suf) (by omega)
        have hst : iStep (sufF l s p q) kl pre.length x suf = .inr (if sufF l s p q (r.reverse ++ suf) = true then suf else x :: suf) := by unfold iStep; rw [hd1]
        have hx : ((r.reverse ++ x :: suf).map (AV.int .i64))[r.length]? = some (.int .i64 x) := by
          rw [List.getElem?_map, List.getElem?_append_right (by simp)]
          simp
        have hcnt : (kl.length : Int) - 1 - ((pre.length : Nat) : Int) = ((r.length : Nat) : Int) := by omega
        have hcn1 : IntKind.i64.wrap (((r.length : Nat) : Int) - 1) = (kl.length : Int) - 1 - ((pre.length + 1 : Nat) : Int) := by rw [IntWalk.i64_in _ (by omega)]; omega
        have hge : decide (((r.length : Nat) : Int) ≥ 0) = true := decide_eq_true (by omega)
        have hlt : ((r.length : Nat) : Int) < (((r.reverse ++ x :: suf).length : Nat) : Int) := by rw [List.length_append, List.length_reverse, List.length_cons]; omega
        clear c1 c2 hs' hd hd1 hwi hnd
        generalize sufF l s p q (r.reverse ++ suf) = e at *
        cases e <;> simp -implicitDefEqProofs only [Bool.false_eq_true, if_false, if_true] at hst
        · simp -implicitDefEqProofs only [QS, QN, QG, QO, hk9, hk10, hcnt, hcn1, hge, hlt, hx, c3, c4, hst, leaf_some, isNormal, ifEv_bool, scals_ints, if_false, if_true, SO, SH, frzO, frzE, AV.laid, AV.treeV, AV.treeC, St.laid, spent, AV.subs, AV.shut, AV.scal, AV.scals, evBuildSlice, elemsOf, zeroOK, evAppend, rowOf, noref, isRef, small, import_, AV.any, AV.anys, isPtr, finV, rename, noPtr, isBad, AV.isUndef, St.setRow, AV.shutV, rebuild, isAggV, evBuild, fillCells, evCutOwn, dedup, nodupB, idx, AV.rows, AV.rowss, AV.mapO, AV.mapOs, firstRegion, gc, keptBoxes, keptRows, renameB, AV.boxes, AV.boxess, keep_13_9, SN, evCutRow, Int.reduceToNat, id_eq, Int.reduceBEq, Int.reduceLE, Int.reduceLT, SS, one_ne2, num_ne2, TIS, MDS, wanted, numbered, plainC, plainS, evEq, eqK, evBox, evAlloc, evStore, evLoad, evFieldAddr, behind, takeVal, AV.cells, AV.isCell, ofCells, ofCell, Value.cells, Nat.reduceAdd, Nat.reduceEqDiff, Nat.reduceLT, Nat.reduceLeDiff, Nat.reduceMul, Nat.reduceSub, reduceIte]
          exact hsub
        · simp -implicitDefEqProofs only [QS, QN, QG, QO, hk9, hk10, hcnt, hcn1, hge, hlt, hx, c3, c4, hst, leaf_some, isNormal, ifEv_bool, scals_ints, if_false, if_true, SO, SH, frzO, frzE, AV.laid, AV.treeV, AV.treeC, St.laid, spent, AV.subs, AV.shut, AV.scal, AV.scals, evBuildSlice, elemsOf, zeroOK, evAppend, rowOf, noref, isRef, small, import_, AV.any, AV.anys, isPtr, finV, rename, noPtr, isBad, AV.isUndef, St.setRow, AV.shutV, rebuild, isAggV, evBuild, fillCells, evCutOwn, dedup, nodupB, idx, AV.rows, AV.rowss, AV.mapO, AV.mapOs, firstRegion, gc, keptBoxes, keptRows, renameB, AV.boxes, AV.boxess, keep_13_9, SN, evCutRow, Int.reduceToNat, id_eq, Int.reduceBEq, Int.reduceLE, Int.reduceLT, SS, one_ne2, num_ne2, TIS, MDS, wanted, numbered, plainC, plainS, evEq, eqK, evBox, evAlloc, evStore, evLoad, evFieldAddr, behind, takeVal, AV.cells, AV.isCell, ofCells, ofCell, Value.cells, Nat.reduceAdd, Nat.reduceEqDiff, Nat.reduceLT, Nat.reduceLeDiff, Nat.reduceMul, Nat.reduceSub, reduceIte]
          exact hsub2
      · simp; omega
      · simp -implicitDefEqProofs only [firstRegion]
        rw [keep_13_9]
        simp -implicitDefEqProofs only [QS, QN, QG, QO, List.reverse_reverse, Int.sub_zero, SN, evCutRow, Int.reduceToNat, id_eq, Int.reduceBEq, Int.reduceLE, Int.reduceLT, SO, SH, frzO, frzE, AV.laid, AV.treeV, AV.treeC, St.laid, spent, AV.subs, AV.shut, AV.scal, AV.scals, evBuildSlice, elemsOf, zeroOK, evAppend, rowOf, noref, isRef, small, import_, AV.any, AV.anys, isPtr, finV, rename, noPtr, isBad, AV.isUndef, St.setRow, AV.shutV, rebuild, isAggV, evBuild, fillCells, evCutOwn, dedup, nodupB, idx, AV.rows, AV.rowss, AV.mapO, AV.mapOs, firstRegion, gc, keptBoxes, keptRows, renameB, AV.boxes, AV.boxess, SS, one_ne2, num_ne2, TIS, MDS, wanted, numbered, plainC, plainS, evEq, eqK, evBox, evAlloc, evStore, evLoad, evFieldAddr, behind, takeVal, AV.cells, AV.isCell, ofCells, ofCell, Value.cells, Nat.reduceAdd, Nat.reduceEqDiff, Nat.reduceLT, Nat.reduceLeDiff, Nat.reduceMul, Nat.reduceSub, reduceIte]
    · intro kl b' ⟨hk1, hk2⟩ hx
      unfold iNxt at hx
      split at hx
      · rename_i h
        obtain rfl := Option.some.inj hx
        exact ⟨⟨asc_sub hk1 (pass_sub _ _), by omega⟩, h, expl_step _ h⟩
      · simp at hx
    · omega
    · simp -implicitDefEqProofs only [firstRegion]
      rw [keep_13_7]
      simp -implicitDefEqProofs only [QS, QN, QG, QO, SN, evCutRow, Int.reduceToNat, id_eq, Int.reduceBEq, Int.reduceLE, Int.reduceLT, SO, SH, frzO, frzE, AV.laid, AV.treeV, AV.treeC, St.laid, spent, AV.subs, AV.shut, AV.scal, AV.scals, evBuildSlice, elemsOf, zeroOK, evAppend, rowOf, noref, isRef, small, import_, AV.any, AV.anys, isPtr, finV, rename, noPtr, isBad, AV.isUndef, St.setRow, AV.shutV, rebuild, isAggV, evBuild, fillCells, evCutOwn, dedup, nodupB, idx, AV.rows, AV.rowss, AV.mapO, AV.mapOs, firstRegion, gc, keptBoxes, keptRows, renameB, AV.boxes, AV.boxess, SS, one_ne2, num_ne2, TIS, MDS, wanted, numbered, plainC, plainS, evEq, eqK, evBox, evAlloc, evStore, evLoad, evFieldAddr, behind, takeVal, AV.cells, AV.isCell, ofCells, ofCell, Value.cells, Nat.reduceAdd, Nat.reduceEqDiff, Nat.reduceLT, Nat.reduceLeDiff, Nat.reduceMul, Nat.reduceSub, reduceIte]
  · intro pre x r _ hs' _
    have hx := (at_row hs' hs).1; have hc := (at_row hs' hs).2.1; have hlt := (at_row hs' hs).2.2.1; have hw1 := (at_row hs' hs).2.2.2.1; have hl9 := (at_row hs' hs).2.2.2.2
    clear hs'
    have hu := idxL_succ pre.length
    have hul := idxL_len pre.length
    have hm1 : ((idxL pre.length).length + 1) * 8 ≤ 140737488355328 := by omega
    have hm2 : (idxL pre.length).length + 1 ≤ 9223372036854775807 := by omega
    have hm9 : (idxL pre.length).length ≤ 9223372036854775806 := by omega
    have hpl : plains [AV.int IntKind.i64 (pre.length : Int)] = true := rfl
    simp -implicitDefEqProofs only [QS, QN, QG, QO, hlt, hw1, hu, hm1, hm2, hm9, hpl, List.map_append, SO, SH, frzO, frzE, AV.laid, AV.treeV, AV.treeC, St.laid, spent, AV.subs, AV.shut, AV.scal, AV.scals, evBuildSlice, elemsOf, zeroOK, evAppend, rowOf, noref, isRef, small, import_, AV.any, AV.anys, isPtr, finV, rename, noPtr, isBad, AV.isUndef, St.setRow, AV.shutV, rebuild, isAggV, evBuild, fillCells, evCutOwn, dedup, nodupB, idx, AV.rows, AV.rowss, AV.mapO, AV.mapOs, firstRegion, gc, keptBoxes, keptRows, renameB, AV.boxes, AV.boxess, keep_13_3, leaf_some, isNormal, ifEv_bool, gate_bool, gateP_bool, gateQ_bool, pick_bool, SN, evCutRow, Int.reduceToNat, id_eq, Int.reduceBEq, Int.reduceLE, Int.reduceLT, SS, one_ne2, num_ne2, TIS, MDS, wanted, numbered, plainC, plainS, evEq, eqK, evBox, evAlloc, evStore, evLoad, evFieldAddr, behind, takeVal, AV.cells, AV.isCell, ofCells, ofCell, Value.cells, Nat.reduceAdd, Nat.reduceEqDiff, Nat.reduceLT, Nat.reduceLeDiff, Nat.reduceMul, Nat.reduceSub, reduceIte]
    repeat' (split <;> (rename_i h; (try simp -implicitDefEqProofs only [Bool.not_eq_true', Bool.not_eq_false', decide_eq_true_eq, decide_eq_false_iff_not] at h); (try simp -implicitDefEqProofs only [QS, QN, QG, QO, *, hlt, hw1, hu, hm1, hm2, hm9, hpl, List.map_append, SO, SH, frzO, frzE, AV.laid, AV.treeV, AV.treeC, St.laid, spent, AV.subs, AV.shut, AV.scal, AV.scals, evBuildSlice, elemsOf, zeroOK, evAppend, rowOf, noref, isRef, small, import_, AV.any, AV.anys, isPtr, finV, rename, noPtr, isBad, AV.isUndef, St.setRow, AV.shutV, rebuild, isAggV, evBuild, fillCells, evCutOwn, dedup, nodupB, idx, AV.rows, AV.rowss, AV.mapO, AV.mapOs, firstRegion, gc, keptBoxes, keptRows, renameB, AV.boxes, AV.boxess, keep_13_3, leaf_some, isNormal, ifEv_bool, gate_bool, gateP_bool, gateQ_bool, pick_bool, SN, evCutRow, Int.reduceToNat, id_eq, Int.reduceBEq, Int.reduceLE, Int.reduceLT, SS, one_ne2, num_ne2, TIS, MDS, wanted, numbered, plainC, plainS, evEq, eqK, evBox, evAlloc, evStore, evLoad, evFieldAddr, behind, takeVal, AV.cells, AV.isCell, ofCells, ofCell, Value.cells, Nat.reduceAdd, Nat.reduceEqDiff, Nat.reduceLT, Nat.reduceLeDiff, Nat.reduceMul, Nat.reduceSub, reduceIte])))
  · omega
  · simp -implicitDefEqProofs only [firstRegion]
    rw [keep_13_3]
    have hu0 : idxL 0 = [] := rfl
    simp -implicitDefEqProofs only [QS, QN, QG, QO, hu0, SN, evCutRow, Int.reduceToNat, id_eq, Int.reduceBEq, Int.reduceLE, Int.reduceLT, SO, SH, frzO, frzE, AV.laid, AV.treeV, AV.treeC, St.laid, spent, AV.subs, AV.shut, AV.scal, AV.scals, evBuildSlice, elemsOf, zeroOK, evAppend, rowOf, noref, isRef, small, import_, AV.any, AV.anys, isPtr, finV, rename, noPtr, isBad, AV.isUndef, St.setRow, AV.shutV, rebuild, isAggV, evBuild, fillCells, evCutOwn, dedup, nodupB, idx, AV.rows, AV.rowss, AV.mapO, AV.mapOs, firstRegion, gc, keptBoxes, keptRows, renameB, AV.boxes, AV.boxess, SS, one_ne2, num_ne2, TIS, MDS, wanted, numbered, plainC, plainS, evEq, eqK, evBox, evAlloc, evStore, evLoad, evFieldAddr, behind, takeVal, AV.cells, AV.isCell, ofCells, ofCell, Value.cells, Nat.reduceAdd, Nat.reduceEqDiff, Nat.reduceLT, Nat.reduceLeDiff, Nat.reduceMul, Nat.reduceSub, reduceIte]
noncomputable def sNxt (f : List Int → Bool) (b : List Int × Bool) : Option (List Int × Bool) := if b.2 = true then some (pass f b.1, decide ((pass f b.1).length < b.1.length)) else none
noncomputable def sVal (f : List Int → Bool) (b : List Int × Bool) : List Int := if b.2 = true then expl f b.1 else b.1
set_option maxHeartbeats 8000000 in
theorem r_spec_ExplainFacts (k : Nat) (hk : 294669116243968 + 30 ≤ k) (l : List Includes) (hl : l.length ≤ 140737488355328) (s : List Fact) (hs0 : s.length ≤ 1099511627776) (p : Policy) (hp : p.w ≤ 1099511627776) (q : Request) :
    run E noExt k 8 [.sl true (l.map (Includes.enc true)), .sl true (s.map (Fact.enc true)), p.enc true, q.enc true] [] = some (.own 0 false 3 1 ((explain l s p q).map (AV.int .i64)), []) := by
  have hs : s.length ≤ 140737488355328 := by omega
  have c1 := fun kp hkp x => r_spec_WithoutIndex (fl := true) (k - 1) (by omega) kp hkp x
  have c2 := fun kp hkp => r_spec_Suffices (fl := true) (f2 := true) (f3 := true) (f4 := true) (f5 := true) (k - 1) (by omega) l hl s hs0 p hp q kp hkp
  have e2 : ∀ kp, suffices_ l s p q kp = sufF l s p q kp := fun _ => rfl
  simp -implicitDefEqProofs only [e2] at c2
  unfold explain
  obtain ⟨k, rfl⟩ : ∃ j, k = j + 1 := ⟨k - 1, by omega⟩
  rw [run_succ rfl rfl, body_eq (nt := 51) (fn := Go.Proofs.Tryz.f8) (by kernel_rfl) rfl rfl rfl rfl rfl rfl rfl rfl]
  simp -implicitDefEqProofs only [Nat.add_sub_cancel, enc_Policy, enc_Request] at c1 c2
  simp -implicitDefEqProofs only [QS, QN, QO, Go.Proofs.Tryz.f8, enc_Policy, enc_Request, SO, SH, frzO, frzE, AV.laid, AV.treeV, AV.treeC, St.laid, spent, AV.subs, AV.shut, AV.scal, AV.scals, evBuildSlice, elemsOf, zeroOK, evAppend, rowOf, noref, isRef, small, import_, AV.any, AV.anys, isPtr, finV, rename, noPtr, isBad, AV.isUndef, St.setRow, AV.shutV, rebuild, isAggV, evBuild, fillCells, evCutOwn, dedup, nodupB, idx, AV.rows, AV.rowss, AV.mapO, AV.mapOs, SN, evCutRow, Int.reduceToNat, id_eq, Int.reduceBEq, Int.reduceLE, Int.reduceLT, SS, one_ne2, num_ne2, TIS, MDS, wanted, numbered, plainC, plainS, evEq, eqK, evBox, evAlloc, evStore, evLoad, evFieldAddr, behind, takeVal, AV.cells, AV.isCell, ofCells, ofCell, Value.cells, Nat.reduceAdd, Nat.reduceEqDiff, Nat.reduceLT, Nat.reduceLeDiff, Nat.reduceMul, Nat.reduceSub, reduceIte]
  rw [ev_loop]
  refine loop_list (Q := fun (_ : Unit) z => thenEnd E.P _ _ 0 (thenEv E _ _ _ _ _ (outOf 0 z)) = some (.own 0 false 3 1 ((expl (sufF l s p q) (idxL s.length)).map (AV.int .i64)), [])) s (fun _ _ _ => .inr ()) id
    (fun i _ => { sl := [(0, .sl true (l.map (Includes.enc true))), (1, .sl true (s.map (Fact.enc true))), (6, .ptr 0 0), (7, .ptr 1 0), (9, .own 0 false 3 1 ((idxL i).map (AV.int .i64))), (10, .int .i64 (i : Nat))], bx := [(0, [.int .i64 p.version, .sl true (p.rules.map (Rule.enc true))]), (1, [.int .i64 q.person, .int .i64 q.device, .int .i64 q.program, .int .i64 q.action, .int .i64 q.object, .int .i64 q.now])], nx := 3, nt := 51 })
    (fun _ _ => True) () ?_ ?_ ?_ trivial ?_
  · intro _ _
    simp -implicitDefEqProofs only [QS, QN, QO, leaf_some, isNormal, ifEv_bool, SO, SH, frzO, frzE, AV.laid, AV.treeV, AV.treeC, St.laid, spent, AV.subs, AV.shut, AV.scal, AV.scals, evBuildSlice, elemsOf, zeroOK, evAppend, rowOf, noref, isRef, small, import_, AV.any, AV.anys, isPtr, finV, rename, noPtr, isBad, AV.isUndef, St.setRow, AV.shutV, rebuild, isAggV, evBuild, fillCells, evCutOwn, dedup, nodupB, idx, AV.rows, AV.rowss, AV.mapO, AV.mapOs, SN, evCutRow, Int.reduceToNat, id_eq, Int.reduceBEq, Int.reduceLE, Int.reduceLT, SS, one_ne2, num_ne2, TIS, MDS, wanted, numbered, plainC, plainS, evEq, eqK, evBox, evAlloc, evStore, evLoad, evFieldAddr, behind, takeVal, AV.cells, AV.isCell, ofCells, ofCell, Value.cells, Nat.reduceAdd, Nat.reduceEqDiff, Nat.reduceLT, Nat.reduceLeDiff, Nat.reduceMul, Nat.reduceSub, reduceIte]
    rw [ev_loop]
    have hin : ∀ c ∈ idxL s.length, 0 ≤ c ∧ c < ((s.length : Nat) : Int) := fun c hc => idxL_in hc
    generalize hkl : idxL s.length = kl0 at hin ⊢
    have hA : Asc kl0 := by rw [← hkl]; exact idxL_asc _
    have hL : kl0.length ≤ 1099511627776 := by rw [← hkl, idxL_len]; omega
    clear hkl
    refine loop_while (Q := fun (g : List Int) z => thenEnd E.P _ _ 0 (thenEv E _ _ _ _ _ (outOf 2 z)) = some (.own 0 false 3 1 (g.map (AV.int .i64)), [])) (sNxt (sufF l s p q)) (sVal (sufF l s p q))
      (fun b => { sl := [(0, .sl true (l.map (Includes.enc true))), (1, .sl true (s.map (Fact.enc true))), (6, .ptr 0 0), (7, .ptr 1 0), (9, .own 0 false 3 1 (b.1.map (AV.int .i64))), (11, .bool b.2)], bx := [(0, [.int .i64 p.version, .sl true (p.rules.map (Rule.enc true))]), (1, [.int .i64 q.person, .int .i64 q.device, .int .i64 q.program, .int .i64 q.action, .int .i64 q.object, .int .i64 q.now])], nx := 3, nt := 51 })
      (fun b => Asc b.1 ∧ b.1.length ≤ 1099511627776 ∧ ∀ c ∈ b.1, 0 ≤ c ∧ c < ((s.length : Nat) : Int)) (fun b => 2 * b.1.length + (if b.2 = true then 1 else 0)) (kl0, true) ?_ ?_ ?_ ⟨hA, hL, hin⟩ ?_
    · intro ⟨kl, ag⟩ ⟨hk1, hk2, hk3⟩
      simp only at hk1 hk2 hk3
      cases ag with
      | false =>
        have hn : sNxt (sufF l s p q) (kl, false) = none := by simp [sNxt]
        have hv : sVal (sufF l s p q) (kl, false) = kl := by simp [sVal]
        rw [hn, hv]
        simp -implicitDefEqProofs only [QS, QN, QG, QO, SO, SH, frzO, frzE, AV.laid, AV.treeV, AV.treeC, St.laid, spent, AV.subs, AV.shut, AV.scal, AV.scals, evBuildSlice, elemsOf, zeroOK, evAppend, rowOf, noref, isRef, small, import_, AV.any, AV.anys, isPtr, finV, rename, noPtr, isBad, AV.isUndef, St.setRow, AV.shutV, rebuild, isAggV, evBuild, fillCells, evCutOwn, dedup, nodupB, idx, AV.rows, AV.rowss, AV.mapO, AV.mapOs, firstRegion, gc, keptBoxes, keptRows, renameB, AV.boxes, AV.boxess, leaf_some, isNormal, ifEv_bool, gate_bool, gateP_bool, gateQ_bool, pick_bool, SN, evCutRow, Int.reduceToNat, id_eq, Int.reduceBEq, Int.reduceLE, Int.reduceLT, SS, one_ne2, num_ne2, TIS, MDS, wanted, numbered, plainC, plainS, evEq, eqK, evBox, evAlloc, evStore, evLoad, evFieldAddr, behind, takeVal, AV.cells, AV.isCell, ofCells, ofCell, Value.cells, Nat.reduceAdd, Nat.reduceEqDiff, Nat.reduceLT, Nat.reduceLeDiff, Nat.reduceMul, Nat.reduceSub, reduceIte]
        repeat' (split <;> (rename_i h; (try simp -implicitDefEqProofs only [Bool.not_eq_true', Bool.not_eq_false', decide_eq_true_eq, decide_eq_false_iff_not] at h); (try simp -implicitDefEqProofs only [QS, QN, QG, QO, *, SO, SH, frzO, frzE, AV.laid, AV.treeV, AV.treeC, St.laid, spent, AV.subs, AV.shut, AV.scal, AV.scals, evBuildSlice, elemsOf, zeroOK, evAppend, rowOf, noref, isRef, small, import_, AV.any, AV.anys, isPtr, finV, rename, noPtr, isBad, AV.isUndef, St.setRow, AV.shutV, rebuild, isAggV, evBuild, fillCells, evCutOwn, dedup, nodupB, idx, AV.rows, AV.rowss, AV.mapO, AV.mapOs, firstRegion, gc, keptBoxes, keptRows, renameB, AV.boxes, AV.boxess, leaf_some, isNormal, ifEv_bool, gate_bool, gateP_bool, gateQ_bool, pick_bool, SN, evCutRow, Int.reduceToNat, id_eq, Int.reduceBEq, Int.reduceLE, Int.reduceLT, SS, one_ne2, num_ne2, TIS, MDS, wanted, numbered, plainC, plainS, evEq, eqK, evBox, evAlloc, evStore, evLoad, evFieldAddr, behind, takeVal, AV.cells, AV.isCell, ofCells, ofCell, Value.cells, Nat.reduceAdd, Nat.reduceEqDiff, Nat.reduceLT, Nat.reduceLeDiff, Nat.reduceMul, Nat.reduceSub, reduceIte])))
      | true =>
        have hn : sNxt (sufF l s p q) (kl, true) = some (pass (sufF l s p q) kl, decide ((pass (sufF l s p q) kl).length < kl.length)) := by simp [sNxt]
        rw [hn]
        have hw1 : IntKind.i64.wrap ((s.length : Int) - 1) = (s.length : Int) - 1 := IntWalk.i64_in _ (by omega)
        simp -implicitDefEqProofs only [QS, QN, QO, hw1, leaf_some, isNormal, ifEv_bool, SO, SH, frzO, frzE, AV.laid, AV.treeV, AV.treeC, St.laid, spent, AV.subs, AV.shut, AV.scal, AV.scals, evBuildSlice, elemsOf, zeroOK, evAppend, rowOf, noref, isRef, small, import_, AV.any, AV.anys, isPtr, finV, rename, noPtr, isBad, AV.isUndef, St.setRow, AV.shutV, rebuild, isAggV, evBuild, fillCells, evCutOwn, dedup, nodupB, idx, AV.rows, AV.rowss, AV.mapO, AV.mapOs, SN, evCutRow, Int.reduceToNat, id_eq, Int.reduceBEq, Int.reduceLE, Int.reduceLT, SS, one_ne2, num_ne2, TIS, MDS, wanted, numbered, plainC, plainS, evEq, eqK, evBox, evAlloc, evStore, evLoad, evFieldAddr, behind, takeVal, AV.cells, AV.isCell, ofCells, ofCell, Value.cells, Nat.reduceAdd, Nat.reduceEqDiff, Nat.reduceLT, Nat.reduceLeDiff, Nat.reduceMul, Nat.reduceSub, reduceIte]
        rw [ev_loop]
        have hball := below_all (n := s.length) (fun c hc => (hk3 c hc).2)
        have hLoop : loopL (sStep (sufF l s p q) kl s.length) id 0 (List.range s.length) [] = pass (sufF l s p q) kl := by
          rw [sLoop (sufF l s p q) hk1 (fun c hc => (hk3 c hc).1) s.length s.length 0 _ _ (by omega) (by simp), hball]
          rfl
        refine loop_list (Q := fun g z => g = pass (sufF l s p q) kl → Leaf (outOf 3 (outOf 4 z)) _) (List.range s.length) (sStep (sufF l s p q) kl s.length) id
          (fun j suf => { sl := [(0, .sl true (l.map (Includes.enc true))), (1, .sl true (s.map (Fact.enc true))), (6, .ptr 0 0), (7, .ptr 1 0), (9, .own 0 false 3 1 ((below kl ((s.length : Int) - (j : Nat)) ++ suf).map (AV.int .i64))), (11, .bool (decide (suf.length + (below kl ((s.length : Int) - (j : Nat))).length < kl.length))), (12, .int .i64 ((s.length : Int) - 1 - (j : Nat)))], bx := [(0, [.int .i64 p.version, .sl true (p.rules.map (Rule.enc true))]), (1, [.int .i64 q.person, .int .i64 q.device, .int .i64 q.program, .int .i64 q.action, .int .i64 q.object, .int .i64 q.now])], nx := 3, nt := 51 })
          (fun j suf => (below kl ((s.length : Int) - (j : Nat)) ++ suf).Sublist kl) [] ?_ ?_ ?_ ?_ ?_ hLoop
        · intro suf hsub
          have hb0 : below kl ((s.length : Int) - ((s.length : Nat) : Int)) = [] := by
            rw [Int.sub_self]
            exact List.filter_eq_nil_iff.2 fun d hd => by have := (hk3 d hd).1; simp; omega
          have hneg : decide ((s.length : Int) - 1 - ((s.length : Nat) : Int) ≥ 0) = false := decide_eq_false (by omega)
          simp -implicitDefEqProofs only [QS, QN, QO, List.length_range, hb0, hneg, leaf_some, isNormal, ifEv_bool, SO, SH, frzO, frzE, AV.laid, AV.treeV, AV.treeC, St.laid, spent, AV.subs, AV.shut, AV.scal, AV.scals, evBuildSlice, elemsOf, zeroOK, evAppend, rowOf, noref, isRef, small, import_, AV.any, AV.anys, isPtr, finV, rename, noPtr, isBad, AV.isUndef, St.setRow, AV.shutV, rebuild, isAggV, evBuild, fillCells, evCutOwn, dedup, nodupB, idx, AV.rows, AV.rowss, AV.mapO, AV.mapOs, SN, evCutRow, Int.reduceToNat, id_eq, Int.reduceBEq, Int.reduceLE, Int.reduceLT, SS, one_ne2, num_ne2, TIS, MDS, wanted, numbered, plainC, plainS, evEq, eqK, evBox, evAlloc, evStore, evLoad, evFieldAddr, behind, takeVal, AV.cells, AV.isCell, ofCells, ofCell, Value.cells, Nat.reduceAdd, Nat.reduceEqDiff, Nat.reduceLT, Nat.reduceLeDiff, Nat.reduceMul, Nat.reduceSub, reduceIte]
          intro he
          subst he
          simp -implicitDefEqProofs only [QS, QN, QG, QO, SO, SH, frzO, frzE, AV.laid, AV.treeV, AV.treeC, St.laid, spent, AV.subs, AV.shut, AV.scal, AV.scals, evBuildSlice, elemsOf, zeroOK, evAppend, rowOf, noref, isRef, small, import_, AV.any, AV.anys, isPtr, finV, rename, noPtr, isBad, AV.isUndef, St.setRow, AV.shutV, rebuild, isAggV, evBuild, fillCells, evCutOwn, dedup, nodupB, idx, AV.rows, AV.rowss, AV.mapO, AV.mapOs, firstRegion, gc, keptBoxes, keptRows, renameB, AV.boxes, AV.boxess, keep_8_7, leaf_some, isNormal, ifEv_bool, gate_bool, gateP_bool, gateQ_bool, pick_bool, SN, evCutRow, Int.reduceToNat, id_eq, Int.reduceBEq, Int.reduceLE, Int.reduceLT, SS, one_ne2, num_ne2, TIS, MDS, wanted, numbered, plainC, plainS, evEq, eqK, evBox, evAlloc, evStore, evLoad, evFieldAddr, behind, takeVal, AV.cells, AV.isCell, ofCells, ofCell, Value.cells, Nat.reduceAdd, Nat.reduceEqDiff, Nat.reduceLT, Nat.reduceLeDiff, Nat.reduceMul, Nat.reduceSub, reduceIte]
          repeat' (split <;> (rename_i h; (try simp -implicitDefEqProofs only [Bool.not_eq_true', Bool.not_eq_false', decide_eq_true_eq, decide_eq_false_iff_not] at h); (try simp -implicitDefEqProofs only [QS, QN, QG, QO, *, SO, SH, frzO, frzE, AV.laid, AV.treeV, AV.treeC, St.laid, spent, AV.subs, AV.shut, AV.scal, AV.scals, evBuildSlice, elemsOf, zeroOK, evAppend, rowOf, noref, isRef, small, import_, AV.any, AV.anys, isPtr, finV, rename, noPtr, isBad, AV.isUndef, St.setRow, AV.shutV, rebuild, isAggV, evBuild, fillCells, evCutOwn, dedup, nodupB, idx, AV.rows, AV.rowss, AV.mapO, AV.mapOs, firstRegion, gc, keptBoxes, keptRows, renameB, AV.boxes, AV.boxess, keep_8_7, leaf_some, isNormal, ifEv_bool, gate_bool, gateP_bool, gateQ_bool, pick_bool, SN, evCutRow, Int.reduceToNat, id_eq, Int.reduceBEq, Int.reduceLE, Int.reduceLT, SS, one_ne2, num_ne2, TIS, MDS, wanted, numbered, plainC, plainS, evEq, eqK, evBox, evAlloc, evStore, evLoad, evFieldAddr, behind, takeVal, AV.cells, AV.isCell, ofCells, ofCell, Value.cells, Nat.reduceAdd, Nat.reduceEqDiff, Nat.reduceLT, Nat.reduceLeDiff, Nat.reduceMul, Nat.reduceSub, reduceIte])))
        · intro pre x r suf hs' hsub
          obtain ⟨hxe, hpr⟩ := range_at2 hs'
          clear hs'
          subst hxe
          obtain ⟨m, hm⟩ : ∃ m, s.length = pre.length + 1 + m := ⟨s.length - (pre.length + 1), by omega⟩
          have hms : s.length - 1 - pre.length = m := by omega
          have hM1 : (s.length : Int) - ((pre.length : Nat) : Int) = (m : Int) + 1 := by omega
          have hM0 : (s.length : Int) - ((pre.length + 1 : Nat) : Int) = (m : Int) := by omega
          have hcnt : (s.length : Int) - 1 - ((pre.length : Nat) : Int) = ((m : Nat) : Int) := by omega
          have hcn1 : IntKind.i64.wrap (((m : Nat) : Int) - 1) = (s.length : Int) - 1 - ((pre.length + 1 : Nat) : Int) := by rw [IntWalk.i64_in _ (by omega)]; omega
          have hge : decide (((m : Nat) : Int) ≥ 0) = true := decide_eq_true (by omega)
          have hbs := below_succ (m : Int) hk1
          have hst : sStep (sufF l s p q) kl s.length pre.length pre.length suf = .inr (if (m : Int) ∈ kl then (if sufF l s p q (below kl (m : Int) ++ suf) = true then suf else (m : Int) :: suf) else suf) := by unfold sStep; rw [hms]
          rw [hM1] at hsub
          have hkl := hsub.length_le
          by_cases hmem : (m : Int) ∈ kl
          · rw [if_pos hmem] at hbs
            simp -implicitDefEqProofs only [hmem, if_true] at hst
            have hk9 : below kl ((s.length : Int) - ((pre.length : Nat) : Int)) ++ suf = below kl (m : Int) ++ (m : Int) :: suf := by rw [hM1, hbs]; simp
            rw [← hM1, hk9] at hsub
            have hnd := asc_nodup (asc_sub hk1 hsub)
            have hwi := without_mid hnd
            have hkl := hsub.length_le
            have hsub2 : (below kl (m : Int) ++ suf).Sublist kl := (List.Sublist.append_left (List.sublist_cons_self _ _) _).trans hsub
            have hkl2 := hsub2.length_le
            have c3 := c1 (below kl (m : Int) ++ (m : Int) :: suf) (by omega) (m : Int)
            rw [hwi] at c3
            have c4 := c2 (below kl (m : Int) ++ suf) (by omega)
            have hlt : decide ((((below kl (m : Int) ++ suf).length : Nat) : Int) < (((below kl (m : Int) ++ (m : Int) :: suf).length : Nat) : Int)) = true := decide_eq_true (by rw [List.length_append, List.length_append, List.length_cons]; omega)
            rw [List.length_append, List.length_cons] at hkl
            have hag0 : decide (suf.length + (below kl ((s.length : Int) - ((pre.length : Nat) : Int))).length < kl.length) = decide (suf.length + 1 + (below kl (m : Int)).length < kl.length) := by
              rw [hM1, hbs, List.length_append, List.length_singleton]
              congr 1
              rw [eq_iff_iff]
              omega
            have hag1 : decide (suf.length + (below kl (m : Int)).length < kl.length) = true := decide_eq_true (by omega)
            generalize hag2 : decide (suf.length + 1 + (below kl (m : Int)).length < kl.length) = ag2 at *
            clear c1 c2 hwi hnd hbs
            generalize sufF l s p q (below kl (m : Int) ++ suf) = e at *
            cases e <;> simp -implicitDefEqProofs only [Bool.false_eq_true, if_false, if_true] at hst
            · simp -implicitDefEqProofs only [QS, QN, QG, QO, hk9, hag0, hM0, hcnt, hcn1, hge, hlt, c3, c4, hst, hag2, leaf_some, isNormal, ifEv_bool, gate_bool, pick_bool, scals_ints, if_false, if_true, SO, SH, frzO, frzE, AV.laid, AV.treeV, AV.treeC, St.laid, spent, AV.subs, AV.shut, AV.scal, AV.scals, evBuildSlice, elemsOf, zeroOK, evAppend, rowOf, noref, isRef, small, import_, AV.any, AV.anys, isPtr, finV, rename, noPtr, isBad, AV.isUndef, St.setRow, AV.shutV, rebuild, isAggV, evBuild, fillCells, evCutOwn, dedup, nodupB, idx, AV.rows, AV.rowss, AV.mapO, AV.mapOs, firstRegion, gc, keptBoxes, keptRows, renameB, AV.boxes, AV.boxess, keep_8_10, SN, evCutRow, Int.reduceToNat, id_eq, Int.reduceBEq, Int.reduceLE, Int.reduceLT, SS, one_ne2, num_ne2, TIS, MDS, wanted, numbered, plainC, plainS, evEq, eqK, evBox, evAlloc, evStore, evLoad, evFieldAddr, behind, takeVal, AV.cells, AV.isCell, ofCells, ofCell, Value.cells, Nat.reduceAdd, Nat.reduceEqDiff, Nat.reduceLT, Nat.reduceLeDiff, Nat.reduceMul, Nat.reduceSub, reduceIte]
              exact hsub
            · simp -implicitDefEqProofs only [QS, QN, QG, QO, hk9, hag0, hM0, hcnt, hcn1, hge, hlt, c3, c4, hst, hag1, leaf_some, isNormal, ifEv_bool, gate_bool, pick_bool, scals_ints, if_false, if_true, SO, SH, frzO, frzE, AV.laid, AV.treeV, AV.treeC, St.laid, spent, AV.subs, AV.shut, AV.scal, AV.scals, evBuildSlice, elemsOf, zeroOK, evAppend, rowOf, noref, isRef, small, import_, AV.any, AV.anys, isPtr, finV, rename, noPtr, isBad, AV.isUndef, St.setRow, AV.shutV, rebuild, isAggV, evBuild, fillCells, evCutOwn, dedup, nodupB, idx, AV.rows, AV.rowss, AV.mapO, AV.mapOs, firstRegion, gc, keptBoxes, keptRows, renameB, AV.boxes, AV.boxess, keep_8_10, SN, evCutRow, Int.reduceToNat, id_eq, Int.reduceBEq, Int.reduceLE, Int.reduceLT, SS, one_ne2, num_ne2, TIS, MDS, wanted, numbered, plainC, plainS, evEq, eqK, evBox, evAlloc, evStore, evLoad, evFieldAddr, behind, takeVal, AV.cells, AV.isCell, ofCells, ofCell, Value.cells, Nat.reduceAdd, Nat.reduceEqDiff, Nat.reduceLT, Nat.reduceLeDiff, Nat.reduceMul, Nat.reduceSub, reduceIte]
              exact hsub2
          · rw [if_neg hmem] at hbs
            simp -implicitDefEqProofs only [hmem, if_false] at hst
            have hk11 : below kl ((s.length : Int) - ((pre.length : Nat) : Int)) = below kl (m : Int) := by rw [hM1, hbs]
            rw [← hM1, hk11] at hsub
            have hkl := hsub.length_le
            have hwn := without_no (fun h => hmem (hsub.subset h))
            have c3 := c1 (below kl (m : Int) ++ suf) (by omega) (m : Int)
            rw [hwn] at c3
            clear c1 c2 hwn hbs
            simp -implicitDefEqProofs only [QS, QN, QG, QO, hk11, hM0, hcnt, hcn1, hge, c3, hst, leaf_some, isNormal, ifEv_bool, gate_bool, pick_bool, scals_ints, if_false, if_true, SO, SH, frzO, frzE, AV.laid, AV.treeV, AV.treeC, St.laid, spent, AV.subs, AV.shut, AV.scal, AV.scals, evBuildSlice, elemsOf, zeroOK, evAppend, rowOf, noref, isRef, small, import_, AV.any, AV.anys, isPtr, finV, rename, noPtr, isBad, AV.isUndef, St.setRow, AV.shutV, rebuild, isAggV, evBuild, fillCells, evCutOwn, dedup, nodupB, idx, AV.rows, AV.rowss, AV.mapO, AV.mapOs, firstRegion, gc, keptBoxes, keptRows, renameB, AV.boxes, AV.boxess, keep_8_10, SN, evCutRow, Int.reduceToNat, id_eq, Int.reduceBEq, Int.reduceLE, Int.reduceLT, SS, one_ne2, num_ne2, TIS, MDS, wanted, numbered, plainC, plainS, evEq, eqK, evBox, evAlloc, evStore, evLoad, evFieldAddr, behind, takeVal, AV.cells, AV.isCell, ofCells, ofCell, Value.cells, Nat.reduceAdd, Nat.reduceEqDiff, Nat.reduceLT, Nat.reduceLeDiff, Nat.reduceMul, Nat.reduceSub, reduceIte]
            exact hsub
        · simp; omega
        · rw [show ((s.length : Int) - ((0 : Nat) : Int)) = ((s.length : Nat) : Int) from by omega, hball]; simp
        · simp -implicitDefEqProofs only [firstRegion]
          rw [keep_8_10]
          have hdl : decide (kl.length < kl.length) = false := by simp
          simp -implicitDefEqProofs only [QS, QN, QG, QO, Int.sub_zero, hball, hdl, SN, evCutRow, Int.reduceToNat, id_eq, Int.reduceBEq, Int.reduceLE, Int.reduceLT, SO, SH, frzO, frzE, AV.laid, AV.treeV, AV.treeC, St.laid, spent, AV.subs, AV.shut, AV.scal, AV.scals, evBuildSlice, elemsOf, zeroOK, evAppend, rowOf, noref, isRef, small, import_, AV.any, AV.anys, isPtr, finV, rename, noPtr, isBad, AV.isUndef, St.setRow, AV.shutV, rebuild, isAggV, evBuild, fillCells, evCutOwn, dedup, nodupB, idx, AV.rows, AV.rowss, AV.mapO, AV.mapOs, firstRegion, gc, keptBoxes, keptRows, renameB, AV.boxes, AV.boxess, SS, one_ne2, num_ne2, TIS, MDS, wanted, numbered, plainC, plainS, evEq, eqK, evBox, evAlloc, evStore, evLoad, evFieldAddr, behind, takeVal, AV.cells, AV.isCell, ofCells, ofCell, Value.cells, Nat.reduceAdd, Nat.reduceEqDiff, Nat.reduceLT, Nat.reduceLeDiff, Nat.reduceMul, Nat.reduceSub, reduceIte]
    · intro ⟨kl, ag⟩ b' ⟨hk1, hk2, hk3⟩ hx
      simp only at hk1 hk2 hk3
      cases ag with
      | false => simp [sNxt] at hx
      | true =>
        simp -implicitDefEqProofs only [sNxt, if_true, Option.some.injEq] at hx
        subst hx
        have hsb := pass_sub (sufF l s p q) kl
        have hsl := hsb.length_le
        refine ⟨⟨asc_sub hk1 hsb, by simp only; omega, fun c hc => hk3 c (hsb.subset hc)⟩, ?_, ?_⟩
        · simp -implicitDefEqProofs only [if_true]
          by_cases h : (pass (sufF l s p q) kl).length < kl.length
          · simp -implicitDefEqProofs only [h, decide_true, if_true]; omega
          · simp -implicitDefEqProofs only [h, decide_false, Bool.false_eq_true, if_false]; omega
        · by_cases h : (pass (sufF l s p q) kl).length < kl.length
          · simp -implicitDefEqProofs only [sVal, h, decide_true, if_true, expl_step _ h]
          · simp -implicitDefEqProofs only [sVal, h, decide_false, Bool.false_eq_true, if_false, if_true, expl_end _ h, pass_same _ h]
            simp
    · simp -implicitDefEqProofs only [if_true]; omega
    · simp -implicitDefEqProofs only [firstRegion]
      rw [keep_8_7]
      simp -implicitDefEqProofs only [QS, QN, QG, QO, SN, evCutRow, Int.reduceToNat, id_eq, Int.reduceBEq, Int.reduceLE, Int.reduceLT, SO, SH, frzO, frzE, AV.laid, AV.treeV, AV.treeC, St.laid, spent, AV.subs, AV.shut, AV.scal, AV.scals, evBuildSlice, elemsOf, zeroOK, evAppend, rowOf, noref, isRef, small, import_, AV.any, AV.anys, isPtr, finV, rename, noPtr, isBad, AV.isUndef, St.setRow, AV.shutV, rebuild, isAggV, evBuild, fillCells, evCutOwn, dedup, nodupB, idx, AV.rows, AV.rowss, AV.mapO, AV.mapOs, firstRegion, gc, keptBoxes, keptRows, renameB, AV.boxes, AV.boxess, SS, one_ne2, num_ne2, TIS, MDS, wanted, numbered, plainC, plainS, evEq, eqK, evBox, evAlloc, evStore, evLoad, evFieldAddr, behind, takeVal, AV.cells, AV.isCell, ofCells, ofCell, Value.cells, Nat.reduceAdd, Nat.reduceEqDiff, Nat.reduceLT, Nat.reduceLeDiff, Nat.reduceMul, Nat.reduceSub, reduceIte]
  · intro pre x r _ hs' _
    have hx := (at_row hs' hs).1; have hc := (at_row hs' hs).2.1; have hlt := (at_row hs' hs).2.2.1; have hw1 := (at_row hs' hs).2.2.2.1; have hl9 := (at_row hs' hs).2.2.2.2
    clear hs'
    have hu := idxL_succ pre.length
    have hul := idxL_len pre.length
    have hm1 : ((idxL pre.length).length + 1) * 8 ≤ 140737488355328 := by omega
    have hm2 : (idxL pre.length).length + 1 ≤ 9223372036854775807 := by omega
    have hm9 : (idxL pre.length).length ≤ 9223372036854775806 := by omega
    have hpl : plains [AV.int IntKind.i64 (pre.length : Int)] = true := rfl
    simp -implicitDefEqProofs only [QS, QN, QG, QO, hlt, hw1, hu, hm1, hm2, hm9, hpl, List.map_append, SO, SH, frzO, frzE, AV.laid, AV.treeV, AV.treeC, St.laid, spent, AV.subs, AV.shut, AV.scal, AV.scals, evBuildSlice, elemsOf, zeroOK, evAppend, rowOf, noref, isRef, small, import_, AV.any, AV.anys, isPtr, finV, rename, noPtr, isBad, AV.isUndef, St.setRow, AV.shutV, rebuild, isAggV, evBuild, fillCells, evCutOwn, dedup, nodupB, idx, AV.rows, AV.rowss, AV.mapO, AV.mapOs, firstRegion, gc, keptBoxes, keptRows, renameB, AV.boxes, AV.boxess, keep_8_3, leaf_some, isNormal, ifEv_bool, gate_bool, gateP_bool, gateQ_bool, pick_bool, SN, evCutRow, Int.reduceToNat, id_eq, Int.reduceBEq, Int.reduceLE, Int.reduceLT, SS, one_ne2, num_ne2, TIS, MDS, wanted, numbered, plainC, plainS, evEq, eqK, evBox, evAlloc, evStore, evLoad, evFieldAddr, behind, takeVal, AV.cells, AV.isCell, ofCells, ofCell, Value.cells, Nat.reduceAdd, Nat.reduceEqDiff, Nat.reduceLT, Nat.reduceLeDiff, Nat.reduceMul, Nat.reduceSub, reduceIte]
    repeat' (split <;> (rename_i h; (try simp -implicitDefEqProofs only [Bool.not_eq_true', Bool.not_eq_false', decide_eq_true_eq, decide_eq_false_iff_not] at h); (try simp -implicitDefEqProofs only [QS, QN, QG, QO, *, hlt, hw1, hu, hm1, hm2, hm9, hpl, List.map_append, SO, SH, frzO, frzE, AV.laid, AV.treeV, AV.treeC, St.laid, spent, AV.subs, AV.shut, AV.scal, AV.scals, evBuildSlice, elemsOf, zeroOK, evAppend, rowOf, noref, isRef, small, import_, AV.any, AV.anys, isPtr, finV, rename, noPtr, isBad, AV.isUndef, St.setRow, AV.shutV, rebuild, isAggV, evBuild, fillCells, evCutOwn, dedup, nodupB, idx, AV.rows, AV.rowss, AV.mapO, AV.mapOs, firstRegion, gc, keptBoxes, keptRows, renameB, AV.boxes, AV.boxess, keep_8_3, leaf_some, isNormal, ifEv_bool, gate_bool, gateP_bool, gateQ_bool, pick_bool, SN, evCutRow, Int.reduceToNat, id_eq, Int.reduceBEq, Int.reduceLE, Int.reduceLT, SS, one_ne2, num_ne2, TIS, MDS, wanted, numbered, plainC, plainS, evEq, eqK, evBox, evAlloc, evStore, evLoad, evFieldAddr, behind, takeVal, AV.cells, AV.isCell, ofCells, ofCell, Value.cells, Nat.reduceAdd, Nat.reduceEqDiff, Nat.reduceLT, Nat.reduceLeDiff, Nat.reduceMul, Nat.reduceSub, reduceIte])))
  · omega
  · simp -implicitDefEqProofs only [firstRegion]
    rw [keep_8_3]
    have hu0 : idxL 0 = [] := rfl
    simp -implicitDefEqProofs only [QS, QN, QG, QO, hu0, SN, evCutRow, Int.reduceToNat, id_eq, Int.reduceBEq, Int.reduceLE, Int.reduceLT, SO, SH, frzO, frzE, AV.laid, AV.treeV, AV.treeC, St.laid, spent, AV.subs, AV.shut, AV.scal, AV.scals, evBuildSlice, elemsOf, zeroOK, evAppend, rowOf, noref, isRef, small, import_, AV.any, AV.anys, isPtr, finV, rename, noPtr, isBad, AV.isUndef, St.setRow, AV.shutV, rebuild, isAggV, evBuild, fillCells, evCutOwn, dedup, nodupB, idx, AV.rows, AV.rowss, AV.mapO, AV.mapOs, firstRegion, gc, keptBoxes, keptRows, renameB, AV.boxes, AV.boxess, SS, one_ne2, num_ne2, TIS, MDS, wanted, numbered, plainC, plainS, evEq, eqK, evBox, evAlloc, evStore, evLoad, evFieldAddr, behind, takeVal, AV.cells, AV.isCell, ofCells, ofCell, Value.cells, Nat.reduceAdd, Nat.reduceEqDiff, Nat.reduceLT, Nat.reduceLeDiff, Nat.reduceMul, Nat.reduceSub, reduceIte]
theorem explain_len (l : List Includes) (s : List Fact) (p : Policy) (q : Request) : (explain l s p q).length ≤ s.length := by
  have := (expl_sub (sufF l s p q) (idxL s.length)).length_le
  rw [idxL_len] at this
  exact this
end Go.Proofs.YtfiapiobaelgoaaGreat.Flat
