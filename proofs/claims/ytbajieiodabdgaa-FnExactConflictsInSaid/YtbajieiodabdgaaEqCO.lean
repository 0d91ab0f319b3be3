/-
Rules that are against each other.
-/
import Derived.Test.YtbajieiodabdgaaEqCC
set_option linter.unusedVariables false
set_option linter.unusedSimpArgs false
set_option maxRecDepth 10000
namespace Go.Proofs.Ytbajieiodabdgaa.Flat
noncomputable def confAt (a b : Rule) : Bool := (((a.effect == 1) && (b.effect == 0)) && meet a b) && canBoth a.cond b.cond
noncomputable def cStep (i : Nat) (a : Rule) (k : Nat) (b : Rule) (out : List Conflict) : Sum (List Conflict) (List Conflict) := .inr (if confAt a b = true then out ++ [⟨(i : Nat), (k : Nat)⟩] else out)
noncomputable def confRow (s : List Rule) (i : Nat) (a : Rule) (out : List Conflict) : List Conflict := loopL (cStep i a) id 0 s out
noncomputable def oStep (s : List Rule) (i : Nat) (a : Rule) (out : List Conflict) : Sum (List Conflict) (List Conflict) := .inr (confRow s i a out)
noncomputable def conflicts (p : Policy) : List Conflict := loopL (oStep p.rules) id 0 p.rules []
theorem cLoop_len (i : Nat) (a : Rule) : ∀ (s : List Rule) (k : Nat) (out : List Conflict), (loopL (cStep i a) id k s out).length ≤ out.length + s.length
  | [], k, out => by simp [loopL]
  | c :: r, k, out => by
    simp -implicitDefEqProofs only [loopL, cStep]
    have := cLoop_len i a r (k + 1) (if confAt a c = true then out ++ [⟨(i : Nat), (k : Nat)⟩] else out)
    simp -implicitDefEqProofs only [List.length_cons]
    cases h : confAt a c
    · rw [h] at this
      simp -implicitDefEqProofs only [Bool.false_eq_true, if_false] at this ⊢
      omega
    · rw [h] at this
      simp -implicitDefEqProofs only [if_true, List.length_append, List.length_singleton] at this ⊢
      omega
theorem confRow_len (s : List Rule) (i : Nat) (a : Rule) (out : List Conflict) : (confRow s i a out).length ≤ out.length + s.length := cLoop_len i a s 0 out
theorem oLoop_len (s : List Rule) : ∀ (t : List Rule) (i : Nat) (out : List Conflict), (loopL (oStep s) id i t out).length ≤ out.length + t.length * s.length
  | [], i, out => by simp [loopL]
  | c :: r, i, out => by
    simp -implicitDefEqProofs only [loopL, oStep]
    have h1 := oLoop_len s r (i + 1) (confRow s i c out)
    have h2 := confRow_len s i c out
    have h3 : (c :: r).length * s.length = r.length * s.length + s.length := by rw [List.length_cons, Nat.succ_mul]
    omega
theorem conflicts_len (p : Policy) : (conflicts p).length ≤ p.w * p.w := by
  have h := oLoop_len p.rules p.rules 0 []
  have h1 : p.rules.length ≤ p.w := wl_length Rule.w p.rules
  have h2 : p.rules.length * p.rules.length ≤ p.w * p.w := Nat.mul_le_mul h1 h1
  simp -implicitDefEqProofs only [List.length_nil, Nat.zero_add] at h
  exact Nat.le_trans h h2
theorem sq_le {n i : Nat} (hn : n ≤ 1048576) (hi : i + 1 ≤ n) : i * n + n ≤ 1099511627776 := by
  have h1 : (i + 1) * n ≤ n * n := Nat.mul_le_mul_right n hi
  have h2 : n * n ≤ 1048576 * 1048576 := Nat.mul_le_mul hn hn
  rw [Nat.succ_mul] at h1
  omega
set_option maxHeartbeats 4000000 in
theorem r_impl_ConflictsIn {fl : Bool} (hfl : fl = true) (k : Nat) (hk : 884940186000000 + 40 ≤ k) (p : Policy) (hp : p.w ≤ 1048576) :
    run E noExt k 44 [p.enc fl] [] = some (.own 0 false 122 2 ((conflicts p).map (Conflict.enc true)), []) := by
  subst hfl
  have hn : p.rules.length ≤ 1048576 := Nat.le_trans (wl_length Rule.w p.rules) hp
  have hs : p.rules.length ≤ 140737488355328 := by omega
  have hwm : ∀ c ∈ p.rules, c.cond.w ≤ 1073741824 := fun c hc => by have := wl_mem (w := Rule.w) hc; have hw : c.w = c.cond.w := rfl; unfold Policy.w at hp; omega
  have c1 := fun (a b : Rule) => r_impl_Meet (fl := true) (gl := true) (k - 1) (by omega) a b
  have c2 := fun (a b : Rule) ha hb => r_impl_CanBothHold (k - 1) (by omega) a.cond b.cond ha hb
  unfold conflicts
  obtain ⟨k, rfl⟩ : ∃ j, k = j + 1 := ⟨k - 1, by omega⟩
  rw [run_succ rfl rfl, body_eq (nt := 54) (fn := Go.Proofs.Try.f44) (by kernel_rfl) rfl rfl rfl rfl rfl rfl rfl rfl]
  simp -implicitDefEqProofs only [Nat.add_sub_cancel, enc_Cond, enc_Rule] at c1 c2
  simp -implicitDefEqProofs only [QS, QN, QO, Go.Proofs.Try.f44, enc_Policy, SO, SH, frzO, frzE, AV.laid, AV.treeV, AV.treeC, St.laid, spent, AV.subs, AV.shut, AV.scal, AV.scals, evBuildSlice, elemsOf, zeroOK, evAppend, rowOf, noref, isRef, small, import_, AV.any, AV.anys, isPtr, finV, rename, noPtr, isBad, AV.isUndef, St.setRow, AV.shutV, rebuild, isAggV, evBuild, fillCells, evCutOwn, dedup, nodupB, idx, AV.rows, AV.rowss, AV.mapO, AV.mapOs, SN, evCutRow, Int.reduceToNat, id_eq, Int.reduceBEq, Int.reduceLE, Int.reduceLT, SS, one_ne2, TIS, MDS, wanted, numbered, plainC, plainS, evEq, eqK, evBox, evAlloc, evStore, evLoad, evFieldAddr, behind, takeVal, AV.cells, AV.isCell, ofCells, ofCell, Value.cells, Nat.reduceAdd, Nat.reduceEqDiff, Nat.reduceLT, Nat.reduceLeDiff, Nat.reduceMul, Nat.reduceSub, reduceIte]
  rw [ev_loop]
  refine Eq.trans (loop_list (Q := fun (g : List Conflict) z => thenEnd E.P _ _ 0 (thenEv E _ _ _ _ _ (outOf 0 z)) = some (.own 0 false 122 2 (g.map (Conflict.enc true)), [])) p.rules (oStep p.rules) id
    (fun i b => { sl := [(1, .ptr 0 0), (3, .own 0 false 122 2 (b.map (Conflict.enc true))), (10, .sl true (p.rules.map (Rule.enc true))), (11, .int .i64 (p.rules.length : Nat)), (12, .int .i64 (i : Nat))], bx := [(0, [.int .i64 p.version, .sl true (p.rules.map (Rule.enc true))])], nx := 2, nt := 54 })
    (fun i b => b.length ≤ i * p.rules.length) [] ?_ ?_ (by omega) (by simp) ?_) rfl
  · intro b _
    simp -implicitDefEqProofs only [QS, QN, QG, QO, SO, SH, frzO, frzE, AV.laid, AV.treeV, AV.treeC, St.laid, spent, AV.subs, AV.shut, AV.scal, AV.scals, evBuildSlice, elemsOf, zeroOK, evAppend, rowOf, noref, isRef, small, import_, AV.any, AV.anys, isPtr, finV, rename, noPtr, isBad, AV.isUndef, St.setRow, AV.shutV, rebuild, isAggV, evBuild, fillCells, evCutOwn, dedup, nodupB, idx, AV.rows, AV.rowss, AV.mapO, AV.mapOs, firstRegion, gc, keptBoxes, keptRows, renameB, AV.boxes, AV.boxess, leaf_some, isNormal, ifEv_bool, gate_bool, gateP_bool, gateQ_bool, pick_bool, SN, evCutRow, Int.reduceToNat, id_eq, Int.reduceBEq, Int.reduceLE, Int.reduceLT, SS, one_ne2, TIS, MDS, wanted, numbered, plainC, plainS, evEq, eqK, evBox, evAlloc, evStore, evLoad, evFieldAddr, behind, takeVal, AV.cells, AV.isCell, ofCells, ofCell, Value.cells, Nat.reduceAdd, Nat.reduceEqDiff, Nat.reduceLT, Nat.reduceLeDiff, Nat.reduceMul, Nat.reduceSub, reduceIte]
    repeat' (split <;> (rename_i h; (try simp -implicitDefEqProofs only [Bool.not_eq_true', Bool.not_eq_false', decide_eq_true_eq, decide_eq_false_iff_not] at h); (try simp -implicitDefEqProofs only [QS, QN, QG, QO, *, SO, SH, frzO, frzE, AV.laid, AV.treeV, AV.treeC, St.laid, spent, AV.subs, AV.shut, AV.scal, AV.scals, evBuildSlice, elemsOf, zeroOK, evAppend, rowOf, noref, isRef, small, import_, AV.any, AV.anys, isPtr, finV, rename, noPtr, isBad, AV.isUndef, St.setRow, AV.shutV, rebuild, isAggV, evBuild, fillCells, evCutOwn, dedup, nodupB, idx, AV.rows, AV.rowss, AV.mapO, AV.mapOs, firstRegion, gc, keptBoxes, keptRows, renameB, AV.boxes, AV.boxess, leaf_some, isNormal, ifEv_bool, gate_bool, gateP_bool, gateQ_bool, pick_bool, SN, evCutRow, Int.reduceToNat, id_eq, Int.reduceBEq, Int.reduceLE, Int.reduceLT, SS, one_ne2, TIS, MDS, wanted, numbered, plainC, plainS, evEq, eqK, evBox, evAlloc, evStore, evLoad, evFieldAddr, behind, takeVal, AV.cells, AV.isCell, ofCells, ofCell, Value.cells, Nat.reduceAdd, Nat.reduceEqDiff, Nat.reduceLT, Nat.reduceLeDiff, Nat.reduceMul, Nat.reduceSub, reduceIte])))
  · intro pre a r b hs' hb
    have hx := (at_row hs' hs).1; have hc := (at_row hs' hs).2.1; have hlt := (at_row hs' hs).2.2.1; have hw1 := (at_row hs' hs).2.2.2.1; have hl9 := (at_row hs' hs).2.2.2.2
    clear hs'
    have hw0 := hw1
    have hxa := hx
    have hca := hc
    have hsq := sq_le hn (i := pre.length) (by omega)
    have hst : oStep p.rules pre.length a b = .inr (confRow p.rules pre.length a b) := rfl
    have hI : (confRow p.rules pre.length a b).length ≤ (pre.length + 1) * p.rules.length := by
      have := confRow_len p.rules pre.length a b
      rw [Nat.succ_mul]
      omega
    generalize hpn : pre.length * p.rules.length = pn at *
    simp -implicitDefEqProofs only [QS, QN, QO, hlt, hw1, hx, enc_Rule, leaf_some, isNormal, ifEv_bool, SO, SH, frzO, frzE, AV.laid, AV.treeV, AV.treeC, St.laid, spent, AV.subs, AV.shut, AV.scal, AV.scals, evBuildSlice, elemsOf, zeroOK, evAppend, rowOf, noref, isRef, small, import_, AV.any, AV.anys, isPtr, finV, rename, noPtr, isBad, AV.isUndef, St.setRow, AV.shutV, rebuild, isAggV, evBuild, fillCells, evCutOwn, dedup, nodupB, idx, AV.rows, AV.rowss, AV.mapO, AV.mapOs, SN, evCutRow, Int.reduceToNat, id_eq, Int.reduceBEq, Int.reduceLE, Int.reduceLT, SS, one_ne2, TIS, MDS, wanted, numbered, plainC, plainS, evEq, eqK, evBox, evAlloc, evStore, evLoad, evFieldAddr, behind, takeVal, AV.cells, AV.isCell, ofCells, ofCell, Value.cells, Nat.reduceAdd, Nat.reduceEqDiff, Nat.reduceLT, Nat.reduceLeDiff, Nat.reduceMul, Nat.reduceSub, reduceIte]
    rw [ev_loop]
    refine loop_list (Q := fun g z => g = confRow p.rules pre.length a b → Leaf (thenEv E _ _ _ _ _ (outOf 1 (outOf 2 z))) _) p.rules (cStep pre.length a) id
      (fun j g => { sl := [(1, .ptr 0 0), (3, .own 0 false 122 2 (g.map (Conflict.enc true))), (4, .int .i64 (pre.length : Nat)), (5, .ptr 1 0), (10, .sl true (p.rules.map (Rule.enc true))), (11, .int .i64 (p.rules.length : Nat)), (12, .int .i64 (pre.length : Nat)), (18, .sl true (p.rules.map (Rule.enc true))), (19, .int .i64 (p.rules.length : Nat)), (20, .int .i64 (j : Nat))], bx := [(0, [.int .i64 p.version, .sl true (p.rules.map (Rule.enc true))]), (1, [.int .i64 a.effect, .int .i64 a.action, .int .i64 a.object, .int .i64 a.cond.op, .int .i64 a.cond.a, .int .i64 a.cond.b, .sl true (a.cond.args.map (Cond.enc true))])], nx := 3, nt := 54 })
      (fun j g => g.length ≤ pn + j) b ?_ ?_ ?_ (by omega) ?_ rfl
    · intro g hg
      simp -implicitDefEqProofs only [QS, QN, QO, leaf_some, isNormal, ifEv_bool, SO, SH, frzO, frzE, AV.laid, AV.treeV, AV.treeC, St.laid, spent, AV.subs, AV.shut, AV.scal, AV.scals, evBuildSlice, elemsOf, zeroOK, evAppend, rowOf, noref, isRef, small, import_, AV.any, AV.anys, isPtr, finV, rename, noPtr, isBad, AV.isUndef, St.setRow, AV.shutV, rebuild, isAggV, evBuild, fillCells, evCutOwn, dedup, nodupB, idx, AV.rows, AV.rowss, AV.mapO, AV.mapOs, SN, evCutRow, Int.reduceToNat, id_eq, Int.reduceBEq, Int.reduceLE, Int.reduceLT, SS, one_ne2, TIS, MDS, wanted, numbered, plainC, plainS, evEq, eqK, evBox, evAlloc, evStore, evLoad, evFieldAddr, behind, takeVal, AV.cells, AV.isCell, ofCells, ofCell, Value.cells, Nat.reduceAdd, Nat.reduceEqDiff, Nat.reduceLT, Nat.reduceLeDiff, Nat.reduceMul, Nat.reduceSub, reduceIte]
      intro he
      rw [hst]
      subst he
      simp -implicitDefEqProofs only [QS, QN, QG, QO, hw0, hI, SO, SH, frzO, frzE, AV.laid, AV.treeV, AV.treeC, St.laid, spent, AV.subs, AV.shut, AV.scal, AV.scals, evBuildSlice, elemsOf, zeroOK, evAppend, rowOf, noref, isRef, small, import_, AV.any, AV.anys, isPtr, finV, rename, noPtr, isBad, AV.isUndef, St.setRow, AV.shutV, rebuild, isAggV, evBuild, fillCells, evCutOwn, dedup, nodupB, idx, AV.rows, AV.rowss, AV.mapO, AV.mapOs, firstRegion, gc, keptBoxes, keptRows, renameB, AV.boxes, AV.boxess, keep_44_3, leaf_some, isNormal, ifEv_bool, gate_bool, gateP_bool, gateQ_bool, pick_bool, SN, evCutRow, Int.reduceToNat, id_eq, Int.reduceBEq, Int.reduceLE, Int.reduceLT, SS, one_ne2, TIS, MDS, wanted, numbered, plainC, plainS, evEq, eqK, evBox, evAlloc, evStore, evLoad, evFieldAddr, behind, takeVal, AV.cells, AV.isCell, ofCells, ofCell, Value.cells, Nat.reduceAdd, Nat.reduceEqDiff, Nat.reduceLT, Nat.reduceLeDiff, Nat.reduceMul, Nat.reduceSub, reduceIte]
      repeat' (split <;> (rename_i h; (try simp -implicitDefEqProofs only [Bool.not_eq_true', Bool.not_eq_false', decide_eq_true_eq, decide_eq_false_iff_not] at h); (try simp -implicitDefEqProofs only [QS, QN, QG, QO, *, hw0, hI, SO, SH, frzO, frzE, AV.laid, AV.treeV, AV.treeC, St.laid, spent, AV.subs, AV.shut, AV.scal, AV.scals, evBuildSlice, elemsOf, zeroOK, evAppend, rowOf, noref, isRef, small, import_, AV.any, AV.anys, isPtr, finV, rename, noPtr, isBad, AV.isUndef, St.setRow, AV.shutV, rebuild, isAggV, evBuild, fillCells, evCutOwn, dedup, nodupB, idx, AV.rows, AV.rowss, AV.mapO, AV.mapOs, firstRegion, gc, keptBoxes, keptRows, renameB, AV.boxes, AV.boxess, keep_44_3, leaf_some, isNormal, ifEv_bool, gate_bool, gateP_bool, gateQ_bool, pick_bool, SN, evCutRow, Int.reduceToNat, id_eq, Int.reduceBEq, Int.reduceLE, Int.reduceLT, SS, one_ne2, TIS, MDS, wanted, numbered, plainC, plainS, evEq, eqK, evBox, evAlloc, evStore, evLoad, evFieldAddr, behind, takeVal, AV.cells, AV.isCell, ofCells, ofCell, Value.cells, Nat.reduceAdd, Nat.reduceEqDiff, Nat.reduceLT, Nat.reduceLeDiff, Nat.reduceMul, Nat.reduceSub, reduceIte])))
    · intro pre2 c r2 g hs2 hg
      have hx := (at_row hs2 hs).1; have hc := (at_row hs2 hs).2.1; have hlt := (at_row hs2 hs).2.2.1; have hw1 := (at_row hs2 hs).2.2.2.1; have hl9 := (at_row hs2 hs).2.2.2.2
      clear hs2
      have c3 := c1 a c
      have c4 := c2 a c (hwm a hca) (hwm c hc)
      have hst2 : cStep pre.length a pre2.length c g = .inr (if ((((a.effect == 1) && (c.effect == 0)) && meet a c) && canBoth a.cond c.cond) = true then g ++ [⟨(pre.length : Nat), (pre2.length : Nat)⟩] else g) := rfl
      have hm1 : (g.length + 1) * 16 ≤ 140737488355328 := by omega
      have hm2 : g.length + 1 ≤ 9223372036854775807 := by omega
      have hm9 : g.length ≤ 9223372036854775806 := by omega
      have hm3 : g.length ≤ pn + (pre2.length + 1) := by omega
      have hm4 : (g ++ [(⟨(pre.length : Nat), (pre2.length : Nat)⟩ : Conflict)]).length ≤ pn + (pre2.length + 1) := by rw [List.length_append, List.length_singleton]; omega
      have hpl : plains [AV.agg [AV.int .i64 (pre.length : Nat), AV.int .i64 (pre2.length : Nat)]] = true := rfl
      clear c1 c2 hwm
      generalize meet a c = e3 at *
      generalize canBoth a.cond c.cond = e4 at *
      cases e1 : (a.effect == 1) with
      | false =>
        rw [e1] at hst2
        simp -implicitDefEqProofs only [Bool.false_and, Bool.false_eq_true, if_false] at hst2
        simp -implicitDefEqProofs only [QS, QN, QG, QO, enc_Rule, hx, hlt, hw1, e1, hst2, hm3, SO, SH, frzO, frzE, AV.laid, AV.treeV, AV.treeC, St.laid, spent, AV.subs, AV.shut, AV.scal, AV.scals, evBuildSlice, elemsOf, zeroOK, evAppend, rowOf, noref, isRef, small, import_, AV.any, AV.anys, isPtr, finV, rename, noPtr, isBad, AV.isUndef, St.setRow, AV.shutV, rebuild, isAggV, evBuild, fillCells, evCutOwn, dedup, nodupB, idx, AV.rows, AV.rowss, AV.mapO, AV.mapOs, firstRegion, gc, keptBoxes, keptRows, renameB, AV.boxes, AV.boxess, keep_44_6, leaf_some, isNormal, ifEv_bool, gate_bool, gateP_bool, gateQ_bool, pick_bool, SN, evCutRow, Int.reduceToNat, id_eq, Int.reduceBEq, Int.reduceLE, Int.reduceLT, SS, one_ne2, TIS, MDS, wanted, numbered, plainC, plainS, evEq, eqK, evBox, evAlloc, evStore, evLoad, evFieldAddr, behind, takeVal, AV.cells, AV.isCell, ofCells, ofCell, Value.cells, Nat.reduceAdd, Nat.reduceEqDiff, Nat.reduceLT, Nat.reduceLeDiff, Nat.reduceMul, Nat.reduceSub, reduceIte]
        repeat' (split <;> (rename_i h; (try simp -implicitDefEqProofs only [Bool.not_eq_true', Bool.not_eq_false', decide_eq_true_eq, decide_eq_false_iff_not] at h); (try simp -implicitDefEqProofs only [QS, QN, QG, QO, *, enc_Rule, hx, hlt, hw1, e1, hst2, hm3, SO, SH, frzO, frzE, AV.laid, AV.treeV, AV.treeC, St.laid, spent, AV.subs, AV.shut, AV.scal, AV.scals, evBuildSlice, elemsOf, zeroOK, evAppend, rowOf, noref, isRef, small, import_, AV.any, AV.anys, isPtr, finV, rename, noPtr, isBad, AV.isUndef, St.setRow, AV.shutV, rebuild, isAggV, evBuild, fillCells, evCutOwn, dedup, nodupB, idx, AV.rows, AV.rowss, AV.mapO, AV.mapOs, firstRegion, gc, keptBoxes, keptRows, renameB, AV.boxes, AV.boxess, keep_44_6, leaf_some, isNormal, ifEv_bool, gate_bool, gateP_bool, gateQ_bool, pick_bool, SN, evCutRow, Int.reduceToNat, id_eq, Int.reduceBEq, Int.reduceLE, Int.reduceLT, SS, one_ne2, TIS, MDS, wanted, numbered, plainC, plainS, evEq, eqK, evBox, evAlloc, evStore, evLoad, evFieldAddr, behind, takeVal, AV.cells, AV.isCell, ofCells, ofCell, Value.cells, Nat.reduceAdd, Nat.reduceEqDiff, Nat.reduceLT, Nat.reduceLeDiff, Nat.reduceMul, Nat.reduceSub, reduceIte])))
      | true =>
        cases e2 : (c.effect == 0) <;> cases e3 <;> cases e4
        all_goals
          rw [e1, e2] at hst2
          simp -implicitDefEqProofs only [Bool.true_and, Bool.and_true, Bool.false_and, Bool.and_false, Bool.and_self, Bool.false_eq_true, if_false, if_true] at hst2
          simp -implicitDefEqProofs only [QS, QN, QG, QO, enc_Rule, enc_Conflict, hx, hlt, hw1, e1, e2, c3, c4, hst2, hm1, hm2, hm9, hm3, hm4, hpl, List.map_append, SO, SH, frzO, frzE, AV.laid, AV.treeV, AV.treeC, St.laid, spent, AV.subs, AV.shut, AV.scal, AV.scals, evBuildSlice, elemsOf, zeroOK, evAppend, rowOf, noref, isRef, small, import_, AV.any, AV.anys, isPtr, finV, rename, noPtr, isBad, AV.isUndef, St.setRow, AV.shutV, rebuild, isAggV, evBuild, fillCells, evCutOwn, dedup, nodupB, idx, AV.rows, AV.rowss, AV.mapO, AV.mapOs, firstRegion, gc, keptBoxes, keptRows, renameB, AV.boxes, AV.boxess, keep_44_6, leaf_some, isNormal, ifEv_bool, gate_bool, gateP_bool, gateQ_bool, pick_bool, SN, evCutRow, Int.reduceToNat, id_eq, Int.reduceBEq, Int.reduceLE, Int.reduceLT, SS, one_ne2, TIS, MDS, wanted, numbered, plainC, plainS, evEq, eqK, evBox, evAlloc, evStore, evLoad, evFieldAddr, behind, takeVal, AV.cells, AV.isCell, ofCells, ofCell, Value.cells, Nat.reduceAdd, Nat.reduceEqDiff, Nat.reduceLT, Nat.reduceLeDiff, Nat.reduceMul, Nat.reduceSub, reduceIte]
          repeat' (split <;> (rename_i h; (try simp -implicitDefEqProofs only [Bool.not_eq_true', Bool.not_eq_false', decide_eq_true_eq, decide_eq_false_iff_not] at h); (try simp -implicitDefEqProofs only [QS, QN, QG, QO, *, enc_Rule, enc_Conflict, hx, hlt, hw1, e1, e2, c3, c4, hst2, hm1, hm2, hm9, hm3, hm4, hpl, List.map_append, SO, SH, frzO, frzE, AV.laid, AV.treeV, AV.treeC, St.laid, spent, AV.subs, AV.shut, AV.scal, AV.scals, evBuildSlice, elemsOf, zeroOK, evAppend, rowOf, noref, isRef, small, import_, AV.any, AV.anys, isPtr, finV, rename, noPtr, isBad, AV.isUndef, St.setRow, AV.shutV, rebuild, isAggV, evBuild, fillCells, evCutOwn, dedup, nodupB, idx, AV.rows, AV.rowss, AV.mapO, AV.mapOs, firstRegion, gc, keptBoxes, keptRows, renameB, AV.boxes, AV.boxess, keep_44_6, leaf_some, isNormal, ifEv_bool, gate_bool, gateP_bool, gateQ_bool, pick_bool, SN, evCutRow, Int.reduceToNat, id_eq, Int.reduceBEq, Int.reduceLE, Int.reduceLT, SS, one_ne2, TIS, MDS, wanted, numbered, plainC, plainS, evEq, eqK, evBox, evAlloc, evStore, evLoad, evFieldAddr, behind, takeVal, AV.cells, AV.isCell, ofCells, ofCell, Value.cells, Nat.reduceAdd, Nat.reduceEqDiff, Nat.reduceLT, Nat.reduceLeDiff, Nat.reduceMul, Nat.reduceSub, reduceIte])))
    · omega
    · simp -implicitDefEqProofs only [firstRegion]
      rw [keep_44_6]
      simp -implicitDefEqProofs only [QS, QN, QG, QO, SN, evCutRow, Int.reduceToNat, id_eq, Int.reduceBEq, Int.reduceLE, Int.reduceLT, SO, SH, frzO, frzE, AV.laid, AV.treeV, AV.treeC, St.laid, spent, AV.subs, AV.shut, AV.scal, AV.scals, evBuildSlice, elemsOf, zeroOK, evAppend, rowOf, noref, isRef, small, import_, AV.any, AV.anys, isPtr, finV, rename, noPtr, isBad, AV.isUndef, St.setRow, AV.shutV, rebuild, isAggV, evBuild, fillCells, evCutOwn, dedup, nodupB, idx, AV.rows, AV.rowss, AV.mapO, AV.mapOs, firstRegion, gc, keptBoxes, keptRows, renameB, AV.boxes, AV.boxess, SS, one_ne2, TIS, MDS, wanted, numbered, plainC, plainS, evEq, eqK, evBox, evAlloc, evStore, evLoad, evFieldAddr, behind, takeVal, AV.cells, AV.isCell, ofCells, ofCell, Value.cells, Nat.reduceAdd, Nat.reduceEqDiff, Nat.reduceLT, Nat.reduceLeDiff, Nat.reduceMul, Nat.reduceSub, reduceIte]
  · simp -implicitDefEqProofs only [firstRegion]
    rw [keep_44_3]
    simp -implicitDefEqProofs only [QS, QN, QG, QO, SN, evCutRow, Int.reduceToNat, id_eq, Int.reduceBEq, Int.reduceLE, Int.reduceLT, SO, SH, frzO, frzE, AV.laid, AV.treeV, AV.treeC, St.laid, spent, AV.subs, AV.shut, AV.scal, AV.scals, evBuildSlice, elemsOf, zeroOK, evAppend, rowOf, noref, isRef, small, import_, AV.any, AV.anys, isPtr, finV, rename, noPtr, isBad, AV.isUndef, St.setRow, AV.shutV, rebuild, isAggV, evBuild, fillCells, evCutOwn, dedup, nodupB, idx, AV.rows, AV.rowss, AV.mapO, AV.mapOs, firstRegion, gc, keptBoxes, keptRows, renameB, AV.boxes, AV.boxess, SS, one_ne2, TIS, MDS, wanted, numbered, plainC, plainS, evEq, eqK, evBox, evAlloc, evStore, evLoad, evFieldAddr, behind, takeVal, AV.cells, AV.isCell, ofCells, ofCell, Value.cells, Nat.reduceAdd, Nat.reduceEqDiff, Nat.reduceLT, Nat.reduceLeDiff, Nat.reduceMul, Nat.reduceSub, reduceIte]
set_option maxHeartbeats 4000000 in
theorem r_spec_ConflictsIn {fl : Bool} (hfl : fl = true) (k : Nat) (hk : 884940186000000 + 40 ≤ k) (p : Policy) (hp : p.w ≤ 1048576) :
    run E noExt k 43 [p.enc fl] [] = some (.own 0 false 122 2 ((conflicts p).map (Conflict.enc true)), []) := by
  subst hfl
  have hn : p.rules.length ≤ 1048576 := Nat.le_trans (wl_length Rule.w p.rules) hp
  have hs : p.rules.length ≤ 140737488355328 := by omega
  have hwm : ∀ c ∈ p.rules, c.cond.w ≤ 1073741824 := fun c hc => by have := wl_mem (w := Rule.w) hc; have hw : c.w = c.cond.w := rfl; unfold Policy.w at hp; omega
  have c1 := fun (a b : Rule) => r_spec_Meet (fl := true) (gl := true) (k - 1) (by omega) a b
  have c2 := fun (a b : Rule) ha hb => r_spec_CanBothHold (k - 1) (by omega) a.cond b.cond ha hb
  unfold conflicts
  obtain ⟨k, rfl⟩ : ∃ j, k = j + 1 := ⟨k - 1, by omega⟩
  rw [run_succ rfl rfl, body_eq (nt := 60) (fn := Go.Proofs.Try.f43) (by kernel_rfl) rfl rfl rfl rfl rfl rfl rfl rfl]
  simp -implicitDefEqProofs only [Nat.add_sub_cancel, enc_Cond, enc_Rule] at c1 c2
  simp -implicitDefEqProofs only [QS, QN, QO, Go.Proofs.Try.f43, enc_Policy, SO, SH, frzO, frzE, AV.laid, AV.treeV, AV.treeC, St.laid, spent, AV.subs, AV.shut, AV.scal, AV.scals, evBuildSlice, elemsOf, zeroOK, evAppend, rowOf, noref, isRef, small, import_, AV.any, AV.anys, isPtr, finV, rename, noPtr, isBad, AV.isUndef, St.setRow, AV.shutV, rebuild, isAggV, evBuild, fillCells, evCutOwn, dedup, nodupB, idx, AV.rows, AV.rowss, AV.mapO, AV.mapOs, SN, evCutRow, Int.reduceToNat, id_eq, Int.reduceBEq, Int.reduceLE, Int.reduceLT, SS, one_ne2, TIS, MDS, wanted, numbered, plainC, plainS, evEq, eqK, evBox, evAlloc, evStore, evLoad, evFieldAddr, behind, takeVal, AV.cells, AV.isCell, ofCells, ofCell, Value.cells, Nat.reduceAdd, Nat.reduceEqDiff, Nat.reduceLT, Nat.reduceLeDiff, Nat.reduceMul, Nat.reduceSub, reduceIte]
  rw [ev_loop]
  refine Eq.trans (loop_list (Q := fun (g : List Conflict) z => thenEnd E.P _ _ 0 (thenEv E _ _ _ _ _ (outOf 0 z)) = some (.own 0 false 122 2 (g.map (Conflict.enc true)), [])) p.rules (oStep p.rules) id
    (fun i b => { sl := [(1, .ptr 0 0), (3, .own 0 false 122 2 (b.map (Conflict.enc true))), (4, .int .i64 (i : Nat))], bx := [(0, [.int .i64 p.version, .sl true (p.rules.map (Rule.enc true))])], nx := 2, nt := 60 })
    (fun i b => b.length ≤ i * p.rules.length) [] ?_ ?_ (by omega) (by simp) ?_) rfl
  · intro b _
    simp -implicitDefEqProofs only [QS, QN, QG, QO, SO, SH, frzO, frzE, AV.laid, AV.treeV, AV.treeC, St.laid, spent, AV.subs, AV.shut, AV.scal, AV.scals, evBuildSlice, elemsOf, zeroOK, evAppend, rowOf, noref, isRef, small, import_, AV.any, AV.anys, isPtr, finV, rename, noPtr, isBad, AV.isUndef, St.setRow, AV.shutV, rebuild, isAggV, evBuild, fillCells, evCutOwn, dedup, nodupB, idx, AV.rows, AV.rowss, AV.mapO, AV.mapOs, firstRegion, gc, keptBoxes, keptRows, renameB, AV.boxes, AV.boxess, leaf_some, isNormal, ifEv_bool, gate_bool, gateP_bool, gateQ_bool, pick_bool, SN, evCutRow, Int.reduceToNat, id_eq, Int.reduceBEq, Int.reduceLE, Int.reduceLT, SS, one_ne2, TIS, MDS, wanted, numbered, plainC, plainS, evEq, eqK, evBox, evAlloc, evStore, evLoad, evFieldAddr, behind, takeVal, AV.cells, AV.isCell, ofCells, ofCell, Value.cells, Nat.reduceAdd, Nat.reduceEqDiff, Nat.reduceLT, Nat.reduceLeDiff, Nat.reduceMul, Nat.reduceSub, reduceIte]
    repeat' (split <;> (rename_i h; (try simp -implicitDefEqProofs only [Bool.not_eq_true', Bool.not_eq_false', decide_eq_true_eq, decide_eq_false_iff_not] at h); (try simp -implicitDefEqProofs only [QS, QN, QG, QO, *, SO, SH, frzO, frzE, AV.laid, AV.treeV, AV.treeC, St.laid, spent, AV.subs, AV.shut, AV.scal, AV.scals, evBuildSlice, elemsOf, zeroOK, evAppend, rowOf, noref, isRef, small, import_, AV.any, AV.anys, isPtr, finV, rename, noPtr, isBad, AV.isUndef, St.setRow, AV.shutV, rebuild, isAggV, evBuild, fillCells, evCutOwn, dedup, nodupB, idx, AV.rows, AV.rowss, AV.mapO, AV.mapOs, firstRegion, gc, keptBoxes, keptRows, renameB, AV.boxes, AV.boxess, leaf_some, isNormal, ifEv_bool, gate_bool, gateP_bool, gateQ_bool, pick_bool, SN, evCutRow, Int.reduceToNat, id_eq, Int.reduceBEq, Int.reduceLE, Int.reduceLT, SS, one_ne2, TIS, MDS, wanted, numbered, plainC, plainS, evEq, eqK, evBox, evAlloc, evStore, evLoad, evFieldAddr, behind, takeVal, AV.cells, AV.isCell, ofCells, ofCell, Value.cells, Nat.reduceAdd, Nat.reduceEqDiff, Nat.reduceLT, Nat.reduceLeDiff, Nat.reduceMul, Nat.reduceSub, reduceIte])))
  · intro pre a r b hs' hb
    have hx := (at_row hs' hs).1; have hc := (at_row hs' hs).2.1; have hlt := (at_row hs' hs).2.2.1; have hw1 := (at_row hs' hs).2.2.2.1; have hl9 := (at_row hs' hs).2.2.2.2
    clear hs'
    have hw0 := hw1
    have hxa := hx
    have hca := hc
    have hsq := sq_le hn (i := pre.length) (by omega)
    have hst : oStep p.rules pre.length a b = .inr (confRow p.rules pre.length a b) := rfl
    have hI : (confRow p.rules pre.length a b).length ≤ (pre.length + 1) * p.rules.length := by
      have := confRow_len p.rules pre.length a b
      rw [Nat.succ_mul]
      omega
    generalize hpn : pre.length * p.rules.length = pn at *
    simp -implicitDefEqProofs only [QS, QN, QO, hlt, hw1, hx, enc_Rule, leaf_some, isNormal, ifEv_bool, SO, SH, frzO, frzE, AV.laid, AV.treeV, AV.treeC, St.laid, spent, AV.subs, AV.shut, AV.scal, AV.scals, evBuildSlice, elemsOf, zeroOK, evAppend, rowOf, noref, isRef, small, import_, AV.any, AV.anys, isPtr, finV, rename, noPtr, isBad, AV.isUndef, St.setRow, AV.shutV, rebuild, isAggV, evBuild, fillCells, evCutOwn, dedup, nodupB, idx, AV.rows, AV.rowss, AV.mapO, AV.mapOs, SN, evCutRow, Int.reduceToNat, id_eq, Int.reduceBEq, Int.reduceLE, Int.reduceLT, SS, one_ne2, TIS, MDS, wanted, numbered, plainC, plainS, evEq, eqK, evBox, evAlloc, evStore, evLoad, evFieldAddr, behind, takeVal, AV.cells, AV.isCell, ofCells, ofCell, Value.cells, Nat.reduceAdd, Nat.reduceEqDiff, Nat.reduceLT, Nat.reduceLeDiff, Nat.reduceMul, Nat.reduceSub, reduceIte]
    rw [ev_loop]
    refine loop_list (Q := fun g z => g = confRow p.rules pre.length a b → Leaf (thenEv E _ _ _ _ _ (outOf 1 (outOf 2 z))) _) p.rules (cStep pre.length a) id
      (fun j g => { sl := [(1, .ptr 0 0), (3, .own 0 false 122 2 (g.map (Conflict.enc true))), (4, .int .i64 (pre.length : Nat)), (5, .int .i64 (j : Nat))], bx := [(0, [.int .i64 p.version, .sl true (p.rules.map (Rule.enc true))])], nx := 2, nt := 60 })
      (fun j g => g.length ≤ pn + j) b ?_ ?_ ?_ (by omega) ?_ rfl
    · intro g hg
      simp -implicitDefEqProofs only [QS, QN, QO, leaf_some, isNormal, ifEv_bool, SO, SH, frzO, frzE, AV.laid, AV.treeV, AV.treeC, St.laid, spent, AV.subs, AV.shut, AV.scal, AV.scals, evBuildSlice, elemsOf, zeroOK, evAppend, rowOf, noref, isRef, small, import_, AV.any, AV.anys, isPtr, finV, rename, noPtr, isBad, AV.isUndef, St.setRow, AV.shutV, rebuild, isAggV, evBuild, fillCells, evCutOwn, dedup, nodupB, idx, AV.rows, AV.rowss, AV.mapO, AV.mapOs, SN, evCutRow, Int.reduceToNat, id_eq, Int.reduceBEq, Int.reduceLE, Int.reduceLT, SS, one_ne2, TIS, MDS, wanted, numbered, plainC, plainS, evEq, eqK, evBox, evAlloc, evStore, evLoad, evFieldAddr, behind, takeVal, AV.cells, AV.isCell, ofCells, ofCell, Value.cells, Nat.reduceAdd, Nat.reduceEqDiff, Nat.reduceLT, Nat.reduceLeDiff, Nat.reduceMul, Nat.reduceSub, reduceIte]
      intro he
      rw [hst]
      subst he
      simp -implicitDefEqProofs only [QS, QN, QG, QO, hw0, hI, SO, SH, frzO, frzE, AV.laid, AV.treeV, AV.treeC, St.laid, spent, AV.subs, AV.shut, AV.scal, AV.scals, evBuildSlice, elemsOf, zeroOK, evAppend, rowOf, noref, isRef, small, import_, AV.any, AV.anys, isPtr, finV, rename, noPtr, isBad, AV.isUndef, St.setRow, AV.shutV, rebuild, isAggV, evBuild, fillCells, evCutOwn, dedup, nodupB, idx, AV.rows, AV.rowss, AV.mapO, AV.mapOs, firstRegion, gc, keptBoxes, keptRows, renameB, AV.boxes, AV.boxess, keep_43_3, leaf_some, isNormal, ifEv_bool, gate_bool, gateP_bool, gateQ_bool, pick_bool, SN, evCutRow, Int.reduceToNat, id_eq, Int.reduceBEq, Int.reduceLE, Int.reduceLT, SS, one_ne2, TIS, MDS, wanted, numbered, plainC, plainS, evEq, eqK, evBox, evAlloc, evStore, evLoad, evFieldAddr, behind, takeVal, AV.cells, AV.isCell, ofCells, ofCell, Value.cells, Nat.reduceAdd, Nat.reduceEqDiff, Nat.reduceLT, Nat.reduceLeDiff, Nat.reduceMul, Nat.reduceSub, reduceIte]
      repeat' (split <;> (rename_i h; (try simp -implicitDefEqProofs only [Bool.not_eq_true', Bool.not_eq_false', decide_eq_true_eq, decide_eq_false_iff_not] at h); (try simp -implicitDefEqProofs only [QS, QN, QG, QO, *, hw0, hI, SO, SH, frzO, frzE, AV.laid, AV.treeV, AV.treeC, St.laid, spent, AV.subs, AV.shut, AV.scal, AV.scals, evBuildSlice, elemsOf, zeroOK, evAppend, rowOf, noref, isRef, small, import_, AV.any, AV.anys, isPtr, finV, rename, noPtr, isBad, AV.isUndef, St.setRow, AV.shutV, rebuild, isAggV, evBuild, fillCells, evCutOwn, dedup, nodupB, idx, AV.rows, AV.rowss, AV.mapO, AV.mapOs, firstRegion, gc, keptBoxes, keptRows, renameB, AV.boxes, AV.boxess, keep_43_3, leaf_some, isNormal, ifEv_bool, gate_bool, gateP_bool, gateQ_bool, pick_bool, SN, evCutRow, Int.reduceToNat, id_eq, Int.reduceBEq, Int.reduceLE, Int.reduceLT, SS, one_ne2, TIS, MDS, wanted, numbered, plainC, plainS, evEq, eqK, evBox, evAlloc, evStore, evLoad, evFieldAddr, behind, takeVal, AV.cells, AV.isCell, ofCells, ofCell, Value.cells, Nat.reduceAdd, Nat.reduceEqDiff, Nat.reduceLT, Nat.reduceLeDiff, Nat.reduceMul, Nat.reduceSub, reduceIte])))
    · intro pre2 c r2 g hs2 hg
      have hlta := hlt
      have hx := (at_row hs2 hs).1; have hc := (at_row hs2 hs).2.1; have hlt := (at_row hs2 hs).2.2.1; have hw1 := (at_row hs2 hs).2.2.2.1; have hl9 := (at_row hs2 hs).2.2.2.2
      clear hs2
      have c3 := c1 a c
      have c4 := c2 a c (hwm a hca) (hwm c hc)
      have hst2 : cStep pre.length a pre2.length c g = .inr (if ((((a.effect == 1) && (c.effect == 0)) && meet a c) && canBoth a.cond c.cond) = true then g ++ [⟨(pre.length : Nat), (pre2.length : Nat)⟩] else g) := rfl
      have hm1 : (g.length + 1) * 16 ≤ 140737488355328 := by omega
      have hm2 : g.length + 1 ≤ 9223372036854775807 := by omega
      have hm9 : g.length ≤ 9223372036854775806 := by omega
      have hm3 : g.length ≤ pn + (pre2.length + 1) := by omega
      have hm4 : (g ++ [(⟨(pre.length : Nat), (pre2.length : Nat)⟩ : Conflict)]).length ≤ pn + (pre2.length + 1) := by rw [List.length_append, List.length_singleton]; omega
      have hpl : plains [AV.agg [AV.int .i64 (pre.length : Nat), AV.int .i64 (pre2.length : Nat)]] = true := rfl
      clear c1 c2 hwm
      generalize meet a c = e3 at *
      generalize canBoth a.cond c.cond = e4 at *
      cases e1 : (a.effect == 1) with
      | false =>
        rw [e1] at hst2
        simp -implicitDefEqProofs only [Bool.false_and, Bool.false_eq_true, if_false] at hst2
        simp -implicitDefEqProofs only [QS, QN, QG, QO, enc_Rule, hxa, hlta, hx, hlt, hw1, e1, hst2, hm3, SO, SH, frzO, frzE, AV.laid, AV.treeV, AV.treeC, St.laid, spent, AV.subs, AV.shut, AV.scal, AV.scals, evBuildSlice, elemsOf, zeroOK, evAppend, rowOf, noref, isRef, small, import_, AV.any, AV.anys, isPtr, finV, rename, noPtr, isBad, AV.isUndef, St.setRow, AV.shutV, rebuild, isAggV, evBuild, fillCells, evCutOwn, dedup, nodupB, idx, AV.rows, AV.rowss, AV.mapO, AV.mapOs, firstRegion, gc, keptBoxes, keptRows, renameB, AV.boxes, AV.boxess, keep_43_6, leaf_some, isNormal, ifEv_bool, gate_bool, gateP_bool, gateQ_bool, pick_bool, SN, evCutRow, Int.reduceToNat, id_eq, Int.reduceBEq, Int.reduceLE, Int.reduceLT, SS, one_ne2, TIS, MDS, wanted, numbered, plainC, plainS, evEq, eqK, evBox, evAlloc, evStore, evLoad, evFieldAddr, behind, takeVal, AV.cells, AV.isCell, ofCells, ofCell, Value.cells, Nat.reduceAdd, Nat.reduceEqDiff, Nat.reduceLT, Nat.reduceLeDiff, Nat.reduceMul, Nat.reduceSub, reduceIte]
        repeat' (split <;> (rename_i h; (try simp -implicitDefEqProofs only [Bool.not_eq_true', Bool.not_eq_false', decide_eq_true_eq, decide_eq_false_iff_not] at h); (try simp -implicitDefEqProofs only [QS, QN, QG, QO, *, enc_Rule, hxa, hlta, hx, hlt, hw1, e1, hst2, hm3, SO, SH, frzO, frzE, AV.laid, AV.treeV, AV.treeC, St.laid, spent, AV.subs, AV.shut, AV.scal, AV.scals, evBuildSlice, elemsOf, zeroOK, evAppend, rowOf, noref, isRef, small, import_, AV.any, AV.anys, isPtr, finV, rename, noPtr, isBad, AV.isUndef, St.setRow, AV.shutV, rebuild, isAggV, evBuild, fillCells, evCutOwn, dedup, nodupB, idx, AV.rows, AV.rowss, AV.mapO, AV.mapOs, firstRegion, gc, keptBoxes, keptRows, renameB, AV.boxes, AV.boxess, keep_43_6, leaf_some, isNormal, ifEv_bool, gate_bool, gateP_bool, gateQ_bool, pick_bool, SN, evCutRow, Int.reduceToNat, id_eq, Int.reduceBEq, Int.reduceLE, Int.reduceLT, SS, one_ne2, TIS, MDS, wanted, numbered, plainC, plainS, evEq, eqK, evBox, evAlloc, evStore, evLoad, evFieldAddr, behind, takeVal, AV.cells, AV.isCell, ofCells, ofCell, Value.cells, Nat.reduceAdd, Nat.reduceEqDiff, Nat.reduceLT, Nat.reduceLeDiff, Nat.reduceMul, Nat.reduceSub, reduceIte])))
      | true =>
        cases e2 : (c.effect == 0) <;> cases e3 <;> cases e4
        all_goals
          rw [e1, e2] at hst2
          simp -implicitDefEqProofs only [Bool.true_and, Bool.and_true, Bool.false_and, Bool.and_false, Bool.and_self, Bool.false_eq_true, if_false, if_true] at hst2
          simp -implicitDefEqProofs only [QS, QN, QG, QO, enc_Rule, enc_Conflict, hxa, hlta, hx, hlt, hw1, e1, e2, c3, c4, hst2, hm1, hm2, hm9, hm3, hm4, hpl, List.map_append, SO, SH, frzO, frzE, AV.laid, AV.treeV, AV.treeC, St.laid, spent, AV.subs, AV.shut, AV.scal, AV.scals, evBuildSlice, elemsOf, zeroOK, evAppend, rowOf, noref, isRef, small, import_, AV.any, AV.anys, isPtr, finV, rename, noPtr, isBad, AV.isUndef, St.setRow, AV.shutV, rebuild, isAggV, evBuild, fillCells, evCutOwn, dedup, nodupB, idx, AV.rows, AV.rowss, AV.mapO, AV.mapOs, firstRegion, gc, keptBoxes, keptRows, renameB, AV.boxes, AV.boxess, keep_43_6, leaf_some, isNormal, ifEv_bool, gate_bool, gateP_bool, gateQ_bool, pick_bool, SN, evCutRow, Int.reduceToNat, id_eq, Int.reduceBEq, Int.reduceLE, Int.reduceLT, SS, one_ne2, TIS, MDS, wanted, numbered, plainC, plainS, evEq, eqK, evBox, evAlloc, evStore, evLoad, evFieldAddr, behind, takeVal, AV.cells, AV.isCell, ofCells, ofCell, Value.cells, Nat.reduceAdd, Nat.reduceEqDiff, Nat.reduceLT, Nat.reduceLeDiff, Nat.reduceMul, Nat.reduceSub, reduceIte]
          repeat' (split <;> (rename_i h; (try simp -implicitDefEqProofs only [Bool.not_eq_true', Bool.not_eq_false', decide_eq_true_eq, decide_eq_false_iff_not] at h); (try simp -implicitDefEqProofs only [QS, QN, QG, QO, *, enc_Rule, enc_Conflict, hxa, hlta, hx, hlt, hw1, e1, e2, c3, c4, hst2, hm1, hm2, hm9, hm3, hm4, hpl, List.map_append, SO, SH, frzO, frzE, AV.laid, AV.treeV, AV.treeC, St.laid, spent, AV.subs, AV.shut, AV.scal, AV.scals, evBuildSlice, elemsOf, zeroOK, evAppend, rowOf, noref, isRef, small, import_, AV.any, AV.anys, isPtr, finV, rename, noPtr, isBad, AV.isUndef, St.setRow, AV.shutV, rebuild, isAggV, evBuild, fillCells, evCutOwn, dedup, nodupB, idx, AV.rows, AV.rowss, AV.mapO, AV.mapOs, firstRegion, gc, keptBoxes, keptRows, renameB, AV.boxes, AV.boxess, keep_43_6, leaf_some, isNormal, ifEv_bool, gate_bool, gateP_bool, gateQ_bool, pick_bool, SN, evCutRow, Int.reduceToNat, id_eq, Int.reduceBEq, Int.reduceLE, Int.reduceLT, SS, one_ne2, TIS, MDS, wanted, numbered, plainC, plainS, evEq, eqK, evBox, evAlloc, evStore, evLoad, evFieldAddr, behind, takeVal, AV.cells, AV.isCell, ofCells, ofCell, Value.cells, Nat.reduceAdd, Nat.reduceEqDiff, Nat.reduceLT, Nat.reduceLeDiff, Nat.reduceMul, Nat.reduceSub, reduceIte])))
    · omega
    · simp -implicitDefEqProofs only [firstRegion]
      rw [keep_43_6]
      simp -implicitDefEqProofs only [QS, QN, QG, QO, SN, evCutRow, Int.reduceToNat, id_eq, Int.reduceBEq, Int.reduceLE, Int.reduceLT, SO, SH, frzO, frzE, AV.laid, AV.treeV, AV.treeC, St.laid, spent, AV.subs, AV.shut, AV.scal, AV.scals, evBuildSlice, elemsOf, zeroOK, evAppend, rowOf, noref, isRef, small, import_, AV.any, AV.anys, isPtr, finV, rename, noPtr, isBad, AV.isUndef, St.setRow, AV.shutV, rebuild, isAggV, evBuild, fillCells, evCutOwn, dedup, nodupB, idx, AV.rows, AV.rowss, AV.mapO, AV.mapOs, firstRegion, gc, keptBoxes, keptRows, renameB, AV.boxes, AV.boxess, SS, one_ne2, TIS, MDS, wanted, numbered, plainC, plainS, evEq, eqK, evBox, evAlloc, evStore, evLoad, evFieldAddr, behind, takeVal, AV.cells, AV.isCell, ofCells, ofCell, Value.cells, Nat.reduceAdd, Nat.reduceEqDiff, Nat.reduceLT, Nat.reduceLeDiff, Nat.reduceMul, Nat.reduceSub, reduceIte]
  · simp -implicitDefEqProofs only [firstRegion]
    rw [keep_43_3]
    simp -implicitDefEqProofs only [QS, QN, QG, QO, SN, evCutRow, Int.reduceToNat, id_eq, Int.reduceBEq, Int.reduceLE, Int.reduceLT, SO, SH, frzO, frzE, AV.laid, AV.treeV, AV.treeC, St.laid, spent, AV.subs, AV.shut, AV.scal, AV.scals, evBuildSlice, elemsOf, zeroOK, evAppend, rowOf, noref, isRef, small, import_, AV.any, AV.anys, isPtr, finV, rename, noPtr, isBad, AV.isUndef, St.setRow, AV.shutV, rebuild, isAggV, evBuild, fillCells, evCutOwn, dedup, nodupB, idx, AV.rows, AV.rowss, AV.mapO, AV.mapOs, firstRegion, gc, keptBoxes, keptRows, renameB, AV.boxes, AV.boxess, SS, one_ne2, TIS, MDS, wanted, numbered, plainC, plainS, evEq, eqK, evBox, evAlloc, evStore, evLoad, evFieldAddr, behind, takeVal, AV.cells, AV.isCell, ofCells, ofCell, Value.cells, Nat.reduceAdd, Nat.reduceEqDiff, Nat.reduceLT, Nat.reduceLeDiff, Nat.reduceMul, Nat.reduceSub, reduceIte]
end Go.Proofs.Ytbajieiodabdgaa.Flat
