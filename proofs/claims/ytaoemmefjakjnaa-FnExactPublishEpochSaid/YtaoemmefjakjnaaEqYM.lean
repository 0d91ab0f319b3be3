/-
Marks in rows of flat cells.
-/
import Derived.Test.YtaoemmefjakjnaaEqY
set_option linter.unusedVariables false
set_option linter.unusedSimpArgs false
set_option maxRecDepth 10000
namespace Go.Proofs.Ytaoemmefjakjnaa.Flat
def mv (m : Nat) (z : Int) (i j : Nat) : Int := z + ((m * i + j : Nat) : Int)
theorem mv_wrap {m : Nat} {z : Int} {i j : Nat} (h : 0 ≤ z ∧ z ≤ 1099511627776) (hi : m * i + j ≤ 109951162777600) : IntKind.i64.wrap (mv m z i j + 1) = mv m z i (j + 1) := by
  unfold mv
  generalize m * i = q at hi ⊢
  rw [IntWalk.i64_in _ (by omega)]
  omega
theorem mv_next {m : Nat} {z : Int} {i : Nat} : mv m z i m = mv m z (i + 1) 0 := by
  unfold mv
  rw [Nat.mul_succ]
  rfl
theorem mv_zero {m : Nat} {z : Int} : mv m z 0 0 = z := by simp [mv]
theorem mv_end {m : Nat} {z : Int} {n : Nat} : mv m z n 0 = z + ((m * n : Nat) : Int) := by simp [mv]
def mark1_Includes (z : Int) (i : Nat) : Includes := ⟨mv 2 z i 0, mv 2 z i 1⟩
def marks_Includes (z : Int) (n : Nat) : List Includes := (List.range n).map (mark1_Includes z)
theorem marks_Includes_len (z : Int) (n : Nat) : (marks_Includes z n).length = n := by simp [marks_Includes]
theorem marks_Includes_at {z : Int} {n : Nat} {pre r : List Includes} {x : Includes} (h : marks_Includes z n = pre ++ x :: r) : x = mark1_Includes z pre.length := by
  have h1 : (marks_Includes z n)[pre.length]? = some x := by rw [h]; simp
  unfold marks_Includes at h1
  rw [List.getElem?_map] at h1
  cases h2 : (List.range n)[pre.length]? with
  | none => rw [h2] at h1; simp at h1
  | some y =>
    rw [h2] at h1
    obtain ⟨h3, h4⟩ := List.getElem?_eq_some_iff.1 h2
    rw [List.getElem_range] at h4
    subst h4
    simp -implicitDefEqProofs only [Option.map_some, Option.some.injEq] at h1
    exact h1.symm
theorem r_laws_heldIncludesS {fl : Bool} (k : Nat) (hk : 281474976710656 + 1 ≤ k) (z : Int) (hz : 0 ≤ z ∧ z ≤ 1099511627776) (n : Nat) (hn : n ≤ 1099511627776) :
    run E noExt k 51 [.sl fl ((marks_Includes z n).map (Includes.enc fl)), .int .i64 z] [] = some (.int .i64 (z + ((2 * n : Nat) : Int)), []) := by
  have hs : (marks_Includes z n).length ≤ 140737488355328 := by rw [marks_Includes_len]; omega
  have hl := marks_Includes_len z n
  rw [← mv_end]
  obtain ⟨k, rfl⟩ : ∃ j, k = j + 1 := ⟨k - 1, by omega⟩
  rw [run_succ rfl rfl, body_eq (nt := 31) (fn := Go.Proofs.Try.f51) (by kernel_rfl) rfl rfl rfl rfl rfl rfl rfl rfl]
  simp -implicitDefEqProofs only [QS, QN, Go.Proofs.Try.f51, SN, evCutRow, Int.reduceToNat, id_eq, Int.reduceBEq, Int.reduceLE, Int.reduceLT, SS, one_ne2, num_ne2, TIS, MDS, wanted, numbered, plainC, plainS, evEq, eqK, evBox, evAlloc, evStore, evLoad, evFieldAddr, behind, takeVal, AV.cells, AV.isCell, ofCells, ofCell, Value.cells, Nat.reduceAdd, Nat.reduceEqDiff, Nat.reduceLT, Nat.reduceLeDiff, Nat.reduceMul, Nat.reduceSub, reduceIte]
  rw [ev_loop]
  refine Eq.trans (loop_list (Q := fun (_ : Unit) x => thenEnd E.P [] _ 0 (thenEv E _ _ _ _ _ (outOf 0 x)) = some (.int .i64 (mv 2 z n 0), [])) (marks_Includes z n) (fun _ _ _ => .inr ()) id
    (fun i _ => { sl := [(0, .sl fl ((marks_Includes z n).map (Includes.enc fl))), (1, .int .i64 (mv 2 z i 0)), (5, .int .i64 (i : Nat))], bx := [], nx := 0, nt := 31 }) (fun _ _ => True) () ?_ ?_ (by omega) trivial ?_) rfl
  · intro _ _
    simp -implicitDefEqProofs only [QS, QN, QG, hl, leaf_some, isNormal, ifEv_bool, gate_bool, gateP_bool, gateQ_bool, pick_bool, SN, evCutRow, Int.reduceToNat, id_eq, Int.reduceBEq, Int.reduceLE, Int.reduceLT, firstRegion, gc, keptBoxes, keptRows, dedup, nodupB, idx, renameB, AV.boxes, AV.boxess, AV.rows, AV.rowss, AV.mapO, AV.mapOs, SS, one_ne2, num_ne2, TIS, MDS, wanted, numbered, plainC, plainS, evEq, eqK, evBox, evAlloc, evStore, evLoad, evFieldAddr, behind, takeVal, AV.cells, AV.isCell, ofCells, ofCell, Value.cells, Nat.reduceAdd, Nat.reduceEqDiff, Nat.reduceLT, Nat.reduceLeDiff, Nat.reduceMul, Nat.reduceSub, reduceIte]
    repeat' (split <;> (rename_i h; (try simp -implicitDefEqProofs only [Bool.not_eq_true', Bool.not_eq_false', decide_eq_true_eq, decide_eq_false_iff_not] at h); (try simp -implicitDefEqProofs only [QS, QN, QG, *, hl, leaf_some, isNormal, ifEv_bool, gate_bool, gateP_bool, gateQ_bool, pick_bool, SN, evCutRow, Int.reduceToNat, id_eq, Int.reduceBEq, Int.reduceLE, Int.reduceLT, firstRegion, gc, keptBoxes, keptRows, dedup, nodupB, idx, renameB, AV.boxes, AV.boxess, AV.rows, AV.rowss, AV.mapO, AV.mapOs, SS, one_ne2, num_ne2, TIS, MDS, wanted, numbered, plainC, plainS, evEq, eqK, evBox, evAlloc, evStore, evLoad, evFieldAddr, behind, takeVal, AV.cells, AV.isCell, ofCells, ofCell, Value.cells, Nat.reduceAdd, Nat.reduceEqDiff, Nat.reduceLT, Nat.reduceLeDiff, Nat.reduceMul, Nat.reduceSub, reduceIte])))
  · intro pre x r _ hs' _
    have hxe := marks_Includes_at hs'
    have hx := (at_row hs' hs).1; have hc := (at_row hs' hs).2.1; have hlt := (at_row hs' hs).2.2.1; have hw1 := (at_row hs' hs).2.2.2.1; have hl9 := (at_row hs' hs).2.2.2.2
    have hp : pre.length < n := by have := congrArg List.length hs'; rw [marks_Includes_len] at this; simp at this; omega
    clear hs'
    have w0 : IntKind.i64.wrap (mv 2 z pre.length 0 + 1) = mv 2 z pre.length 1 := mv_wrap hz (by omega)
    have w1 : IntKind.i64.wrap (mv 2 z pre.length 1 + 1) = mv 2 z (pre.length + 1) 0 := (mv_wrap hz (by omega)).trans mv_next
    subst hxe
    have hen : Includes.enc fl (mark1_Includes z pre.length) = .agg [.int .i64 (mv 2 z pre.length 0), .int .i64 (mv 2 z pre.length 1)] := rfl
    simp -implicitDefEqProofs only [QS, QN, QG, hen, hx, hlt, hw1, w0, w1, bne, keep_51_2, leaf_some, isNormal, ifEv_bool, gate_bool, gateP_bool, gateQ_bool, pick_bool, SN, evCutRow, Int.reduceToNat, id_eq, Int.reduceBEq, Int.reduceLE, Int.reduceLT, firstRegion, gc, keptBoxes, keptRows, dedup, nodupB, idx, renameB, AV.boxes, AV.boxess, AV.rows, AV.rowss, AV.mapO, AV.mapOs, SS, one_ne2, num_ne2, TIS, MDS, wanted, numbered, plainC, plainS, evEq, eqK, evBox, evAlloc, evStore, evLoad, evFieldAddr, behind, takeVal, AV.cells, AV.isCell, ofCells, ofCell, Value.cells, Nat.reduceAdd, Nat.reduceEqDiff, Nat.reduceLT, Nat.reduceLeDiff, Nat.reduceMul, Nat.reduceSub, reduceIte]
    repeat' (split <;> (rename_i h; (try simp -implicitDefEqProofs only [Bool.not_eq_true', Bool.not_eq_false', decide_eq_true_eq, decide_eq_false_iff_not] at h); (try simp -implicitDefEqProofs only [QS, QN, QG, *, hen, hx, hlt, hw1, w0, w1, bne, keep_51_2, leaf_some, isNormal, ifEv_bool, gate_bool, gateP_bool, gateQ_bool, pick_bool, SN, evCutRow, Int.reduceToNat, id_eq, Int.reduceBEq, Int.reduceLE, Int.reduceLT, firstRegion, gc, keptBoxes, keptRows, dedup, nodupB, idx, renameB, AV.boxes, AV.boxess, AV.rows, AV.rowss, AV.mapO, AV.mapOs, SS, one_ne2, num_ne2, TIS, MDS, wanted, numbered, plainC, plainS, evEq, eqK, evBox, evAlloc, evStore, evLoad, evFieldAddr, behind, takeVal, AV.cells, AV.isCell, ofCells, ofCell, Value.cells, Nat.reduceAdd, Nat.reduceEqDiff, Nat.reduceLT, Nat.reduceLeDiff, Nat.reduceMul, Nat.reduceSub, reduceIte])))
  · simp -implicitDefEqProofs only [firstRegion]
    rw [keep_51_2]
    simp -implicitDefEqProofs only [QS, QN, QG, mv_zero, SN, evCutRow, Int.reduceToNat, id_eq, Int.reduceBEq, Int.reduceLE, Int.reduceLT, firstRegion, gc, keptBoxes, keptRows, dedup, nodupB, idx, renameB, AV.boxes, AV.boxess, AV.rows, AV.rowss, AV.mapO, AV.mapOs, SS, one_ne2, num_ne2, TIS, MDS, wanted, numbered, plainC, plainS, evEq, eqK, evBox, evAlloc, evStore, evLoad, evFieldAddr, behind, takeVal, AV.cells, AV.isCell, ofCells, ofCell, Value.cells, Nat.reduceAdd, Nat.reduceEqDiff, Nat.reduceLT, Nat.reduceLeDiff, Nat.reduceMul, Nat.reduceSub, reduceIte]
theorem r_laws_markIncludesS (k : Nat) (hk : 281474976710656 + 1 ≤ k) (xs : List Includes) (hs0 : xs.length ≤ 1099511627776) (z : Int) (hz : 0 ≤ z ∧ z ≤ 1099511627776) :
    run E noExt k 25 [.own 0 false 79 2 (xs.map (Includes.enc true)), .int .i64 z] [] = some (.int .i64 (z + ((2 * xs.length : Nat) : Int)), [[.own 0 false 79 2 ((marks_Includes z xs.length).map (Includes.enc true))]]) := by
  have hs : (List.range xs.length).length ≤ 140737488355328 := by rw [List.length_range]; omega
  have hl : (List.range xs.length).length = xs.length := List.length_range
  rw [← mv_end]
  obtain ⟨k, rfl⟩ : ∃ j, k = j + 1 := ⟨k - 1, by omega⟩
  rw [run_succ rfl rfl, body_eq (nt := 27) (fn := Go.Proofs.Try.f25) (by kernel_rfl) rfl rfl rfl rfl rfl rfl rfl rfl]
  simp -implicitDefEqProofs only [QS, QN, QO, Go.Proofs.Try.f25, SO, SH, frzO, frzE, AV.laid, AV.treeV, AV.treeC, St.laid, spent, AV.subs, AV.shut, AV.scal, AV.scals, evBuildSlice, elemsOf, zeroOK, evAppend, rowOf, noref, isRef, small, import_, AV.any, AV.anys, isPtr, finV, rename, noPtr, isBad, AV.isUndef, St.setRow, AV.shutV, rebuild, isAggV, evBuild, fillCells, evCutOwn, dedup, nodupB, idx, AV.rows, AV.rowss, AV.mapO, AV.mapOs, SN, evCutRow, Int.reduceToNat, id_eq, Int.reduceBEq, Int.reduceLE, Int.reduceLT, SS, one_ne2, num_ne2, TIS, MDS, wanted, numbered, plainC, plainS, evEq, eqK, evBox, evAlloc, evStore, evLoad, evFieldAddr, behind, takeVal, AV.cells, AV.isCell, ofCells, ofCell, Value.cells, Nat.reduceAdd, Nat.reduceEqDiff, Nat.reduceLT, Nat.reduceLeDiff, Nat.reduceMul, Nat.reduceSub, reduceIte]
  rw [ev_loop]
  refine Eq.trans (loop_list (Q := fun g x => thenEnd E.P _ _ 0 (thenEv E _ _ _ _ _ (outOf 0 x)) = some (.int .i64 (mv 2 z xs.length 0), [[.own 0 false 79 2 g]])) (List.range xs.length) (mkStep fun i => Includes.enc true (mark1_Includes z i)) id
    (fun i b => { sl := [(0, .own 0 false 79 2 b), (1, .int .i64 (mv 2 z i 0)), (5, .int .i64 (i : Nat))], bx := [], nx := 1, nt := 27 }) (fun i b => b.length = xs.length ∧ (∀ y ∈ b, ∃ x, y = Includes.enc true x)) (xs.map (Includes.enc true)) ?_ ?_ (by omega) ⟨by simp, ?_⟩ ?_) ?_
  · intro b ⟨h1, h2⟩
    simp -implicitDefEqProofs only [QS, QN, QG, QO, hl, h1, SO, SH, frzO, frzE, AV.laid, AV.treeV, AV.treeC, St.laid, spent, AV.subs, AV.shut, AV.scal, AV.scals, evBuildSlice, elemsOf, zeroOK, evAppend, rowOf, noref, isRef, small, import_, AV.any, AV.anys, isPtr, finV, rename, noPtr, isBad, AV.isUndef, St.setRow, AV.shutV, rebuild, isAggV, evBuild, fillCells, evCutOwn, dedup, nodupB, idx, AV.rows, AV.rowss, AV.mapO, AV.mapOs, firstRegion, gc, keptBoxes, keptRows, renameB, AV.boxes, AV.boxess, leaf_some, isNormal, ifEv_bool, gate_bool, gateP_bool, gateQ_bool, pick_bool, SN, evCutRow, Int.reduceToNat, id_eq, Int.reduceBEq, Int.reduceLE, Int.reduceLT, SS, one_ne2, num_ne2, TIS, MDS, wanted, numbered, plainC, plainS, evEq, eqK, evBox, evAlloc, evStore, evLoad, evFieldAddr, behind, takeVal, AV.cells, AV.isCell, ofCells, ofCell, Value.cells, Nat.reduceAdd, Nat.reduceEqDiff, Nat.reduceLT, Nat.reduceLeDiff, Nat.reduceMul, Nat.reduceSub, reduceIte]
    repeat' (split <;> (rename_i h; (try simp -implicitDefEqProofs only [Bool.not_eq_true', Bool.not_eq_false', decide_eq_true_eq, decide_eq_false_iff_not] at h); (try simp -implicitDefEqProofs only [QS, QN, QG, QO, *, hl, h1, SO, SH, frzO, frzE, AV.laid, AV.treeV, AV.treeC, St.laid, spent, AV.subs, AV.shut, AV.scal, AV.scals, evBuildSlice, elemsOf, zeroOK, evAppend, rowOf, noref, isRef, small, import_, AV.any, AV.anys, isPtr, finV, rename, noPtr, isBad, AV.isUndef, St.setRow, AV.shutV, rebuild, isAggV, evBuild, fillCells, evCutOwn, dedup, nodupB, idx, AV.rows, AV.rowss, AV.mapO, AV.mapOs, firstRegion, gc, keptBoxes, keptRows, renameB, AV.boxes, AV.boxess, leaf_some, isNormal, ifEv_bool, gate_bool, gateP_bool, gateQ_bool, pick_bool, SN, evCutRow, Int.reduceToNat, id_eq, Int.reduceBEq, Int.reduceLE, Int.reduceLT, SS, one_ne2, num_ne2, TIS, MDS, wanted, numbered, plainC, plainS, evEq, eqK, evBox, evAlloc, evStore, evLoad, evFieldAddr, behind, takeVal, AV.cells, AV.isCell, ofCells, ofCell, Value.cells, Nat.reduceAdd, Nat.reduceEqDiff, Nat.reduceLT, Nat.reduceLeDiff, Nat.reduceMul, Nat.reduceSub, reduceIte])))
    rw [finish_mut1 rfl]
    simp -implicitDefEqProofs only [QS, QN, QG, QO, finC, SN, evCutRow, Int.reduceToNat, id_eq, Int.reduceBEq, Int.reduceLE, Int.reduceLT, SO, SH, frzO, frzE, AV.laid, AV.treeV, AV.treeC, St.laid, spent, AV.subs, AV.shut, AV.scal, AV.scals, evBuildSlice, elemsOf, zeroOK, evAppend, rowOf, noref, isRef, small, import_, AV.any, AV.anys, isPtr, finV, rename, noPtr, isBad, AV.isUndef, St.setRow, AV.shutV, rebuild, isAggV, evBuild, fillCells, evCutOwn, dedup, nodupB, idx, AV.rows, AV.rowss, AV.mapO, AV.mapOs, firstRegion, gc, keptBoxes, keptRows, renameB, AV.boxes, AV.boxess, SS, one_ne2, num_ne2, TIS, MDS, wanted, numbered, plainC, plainS, evEq, eqK, evBox, evAlloc, evStore, evLoad, evFieldAddr, behind, takeVal, AV.cells, AV.isCell, ofCells, ofCell, Value.cells, Nat.reduceAdd, Nat.reduceEqDiff, Nat.reduceLT, Nat.reduceLeDiff, Nat.reduceMul, Nat.reduceSub, reduceIte]
    all_goals trace_state
  · intro pre c r b hs' ⟨h1, h2⟩
    have hx := (at_row hs' hs).1; have hc := (at_row hs' hs).2.1; have hlt := (at_row hs' hs).2.2.1; have hw1 := (at_row hs' hs).2.2.2.1; have hl9 := (at_row hs' hs).2.2.2.2
    have hp : pre.length < xs.length := by have := congrArg List.length hs'; simp at this; omega
    have hl1 : pre.length < b.length := by omega
    have hl2 : ((pre.length : Nat) : Int) < ((b.length : Nat) : Int) := by omega
    obtain ⟨y, hy⟩ : ∃ y, b[pre.length]? = some y := ⟨_, List.getElem?_eq_getElem hl1⟩
    obtain ⟨cs, rfl⟩ := h2 y (List.mem_of_getElem? hy)
    have hset : ∀ y ∈ b.set pre.length (Includes.enc true (mark1_Includes z pre.length)), ∃ cs, y = Includes.enc true cs := by
      intro y hy
      rcases List.mem_or_eq_of_mem_set hy with hy | rfl
      · exact h2 y hy
      · exact ⟨_, rfl⟩
    clear hs'
    have w0 : IntKind.i64.wrap (mv 2 z pre.length 0 + 1) = mv 2 z pre.length 1 := mv_wrap hz (by omega)
    have w1 : IntKind.i64.wrap (mv 2 z pre.length 1 + 1) = mv 2 z (pre.length + 1) 0 := (mv_wrap hz (by omega)).trans mv_next
    have hen : Includes.enc true (mark1_Includes z pre.length) = .agg [.int .i64 (mv 2 z pre.length 0), .int .i64 (mv 2 z pre.length 1)] := rfl
    have hg : ∀ v : AV, (b.set pre.length v)[pre.length]? = some v := fun v => List.getElem?_set_self hl1
    rw [enc_Includes] at hy
    simp -implicitDefEqProofs only [hen] at hset
    simp -implicitDefEqProofs only [QS, QN, QG, QO, hen, hlt, hl2, hw1, w0, w1, hy, hg, List.set_set, List.length_set, mkStep, SO, SH, frzO, frzE, AV.laid, AV.treeV, AV.treeC, St.laid, spent, AV.subs, AV.shut, AV.scal, AV.scals, evBuildSlice, elemsOf, zeroOK, evAppend, rowOf, noref, isRef, small, import_, AV.any, AV.anys, isPtr, finV, rename, noPtr, isBad, AV.isUndef, St.setRow, AV.shutV, rebuild, isAggV, evBuild, fillCells, evCutOwn, dedup, nodupB, idx, AV.rows, AV.rowss, AV.mapO, AV.mapOs, firstRegion, gc, keptBoxes, keptRows, renameB, AV.boxes, AV.boxess, keep_25_2, leaf_some, isNormal, ifEv_bool, gate_bool, gateP_bool, gateQ_bool, pick_bool, SN, evCutRow, Int.reduceToNat, id_eq, Int.reduceBEq, Int.reduceLE, Int.reduceLT, SS, one_ne2, num_ne2, TIS, MDS, wanted, numbered, plainC, plainS, evEq, eqK, evBox, evAlloc, evStore, evLoad, evFieldAddr, behind, takeVal, AV.cells, AV.isCell, ofCells, ofCell, Value.cells, Nat.reduceAdd, Nat.reduceEqDiff, Nat.reduceLT, Nat.reduceLeDiff, Nat.reduceMul, Nat.reduceSub, reduceIte]
    repeat' (split <;> (rename_i h; (try simp -implicitDefEqProofs only [Bool.not_eq_true', Bool.not_eq_false', decide_eq_true_eq, decide_eq_false_iff_not] at h); (try simp -implicitDefEqProofs only [QS, QN, QG, QO, *, hen, hlt, hl2, hw1, w0, w1, hy, hg, List.set_set, List.length_set, mkStep, SO, SH, frzO, frzE, AV.laid, AV.treeV, AV.treeC, St.laid, spent, AV.subs, AV.shut, AV.scal, AV.scals, evBuildSlice, elemsOf, zeroOK, evAppend, rowOf, noref, isRef, small, import_, AV.any, AV.anys, isPtr, finV, rename, noPtr, isBad, AV.isUndef, St.setRow, AV.shutV, rebuild, isAggV, evBuild, fillCells, evCutOwn, dedup, nodupB, idx, AV.rows, AV.rowss, AV.mapO, AV.mapOs, firstRegion, gc, keptBoxes, keptRows, renameB, AV.boxes, AV.boxess, keep_25_2, leaf_some, isNormal, ifEv_bool, gate_bool, gateP_bool, gateQ_bool, pick_bool, SN, evCutRow, Int.reduceToNat, id_eq, Int.reduceBEq, Int.reduceLE, Int.reduceLT, SS, one_ne2, num_ne2, TIS, MDS, wanted, numbered, plainC, plainS, evEq, eqK, evBox, evAlloc, evStore, evLoad, evFieldAddr, behind, takeVal, AV.cells, AV.isCell, ofCells, ofCell, Value.cells, Nat.reduceAdd, Nat.reduceEqDiff, Nat.reduceLT, Nat.reduceLeDiff, Nat.reduceMul, Nat.reduceSub, reduceIte])))
    exact ⟨h1, hset⟩
  · intro y hy
    obtain ⟨c, _, rfl⟩ := List.mem_map.1 hy
    exact ⟨_, rfl⟩
  · simp -implicitDefEqProofs only [firstRegion]
    rw [keep_25_2]
    simp -implicitDefEqProofs only [QS, QN, QG, QO, mv_zero, SN, evCutRow, Int.reduceToNat, id_eq, Int.reduceBEq, Int.reduceLE, Int.reduceLT, SO, SH, frzO, frzE, AV.laid, AV.treeV, AV.treeC, St.laid, spent, AV.subs, AV.shut, AV.scal, AV.scals, evBuildSlice, elemsOf, zeroOK, evAppend, rowOf, noref, isRef, small, import_, AV.any, AV.anys, isPtr, finV, rename, noPtr, isBad, AV.isUndef, St.setRow, AV.shutV, rebuild, isAggV, evBuild, fillCells, evCutOwn, dedup, nodupB, idx, AV.rows, AV.rowss, AV.mapO, AV.mapOs, firstRegion, gc, keptBoxes, keptRows, renameB, AV.boxes, AV.boxess, SS, one_ne2, num_ne2, TIS, MDS, wanted, numbered, plainC, plainS, evEq, eqK, evBox, evAlloc, evStore, evLoad, evFieldAddr, behind, takeVal, AV.cells, AV.isCell, ofCells, ofCell, Value.cells, Nat.reduceAdd, Nat.reduceEqDiff, Nat.reduceLT, Nat.reduceLeDiff, Nat.reduceMul, Nat.reduceSub, reduceIte]
  · rw [mkLoop _ _ _ _ (by simp)]
    simp -implicitDefEqProofs only [List.take_zero, List.nil_append, hl, Nat.zero_add, marks_Includes, List.map_map]
    rfl
end Go.Proofs.Ytaoemmefjakjnaa.Flat
