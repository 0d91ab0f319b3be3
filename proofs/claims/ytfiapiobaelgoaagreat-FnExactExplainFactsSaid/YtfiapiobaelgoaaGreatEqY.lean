/-
Marks in rows of whole numbers.
-/
import Derived.Test.YtfiapiobaelgoaaGreatEqI
set_option linter.unusedVariables false
set_option linter.unusedSimpArgs false
set_option maxRecDepth 10000
namespace Go.Proofs.YtfiapiobaelgoaaGreat.Flat
theorem evCall_mutOwn {Φ : Phi} {nid n id : Nat} {b : Bool} {e sz : Nat} {xs : List AV} {v : AV} {dst : Option Nat} {st : St} : evCall Φ [.mut, .ro] nid n [.own id b e sz xs, v] [] dst st = evGive Φ nid n [(.mut, .own id b e sz xs), (.ro, v)] dst st := rfl
theorem evCall_mutAgg {Φ : Phi} {nid n : Nat} {cs : List AV} {v : AV} {dst : Option Nat} {st : St} : evCall Φ [.mut, .ro] nid n [.agg cs, v] [] dst st = evGive Φ nid n [(.mut, .agg cs), (.ro, v)] dst st := rfl
def mkStep (g : Nat → AV) (i : Nat) (_ : Nat) (b : List AV) : Sum (List AV) (List AV) := .inr (b.set i (g i))
theorem mkLoop (g : Nat → AV) : ∀ (s : List Nat) (i : Nat) (b : List AV), b.length = i + s.length → loopL (mkStep g) id i s b = b.take i ++ (List.range s.length).map (fun j => g (i + j))
  | [], i, b, h => by simp -implicitDefEqProofs only [loopL, List.length_nil, List.range_zero, List.map_nil, List.append_nil, id]; rw [List.take_of_length_le (by simp at h; omega)]
  | c :: r, i, b, h => by
    simp -implicitDefEqProofs only [List.length_cons] at h
    simp -implicitDefEqProofs only [loopL, mkStep]
    rw [mkLoop g r (i + 1) _ (by rw [List.length_set]; omega), List.length_cons, List.range_succ_eq_map, List.map_cons, List.map_map, List.take_set]
    have e : (b.take (i + 1)).set i (g i) = b.take i ++ [g i] := by
      rw [List.set_eq_take_append_cons_drop, if_pos (by rw [List.length_take]; omega), List.take_take, Nat.min_eq_left (by omega), List.drop_of_length_le (by rw [List.length_take]; omega)]
    rw [e, List.append_assoc, List.singleton_append]
    congr 3
    funext j
    simp -implicitDefEqProofs only [Function.comp]
    congr 1
    omega
def marksI (z : Int) (n : Nat) : List Int := (List.range n).map fun i => z + (i : Nat)
theorem marksI_at {z : Int} {n : Nat} {pre r : List Int} {x : Int} (h : marksI z n = pre ++ x :: r) : x = z + (pre.length : Nat) := by
  have h1 : (marksI z n)[pre.length]? = some x := by rw [h]; simp
  unfold marksI at h1
  rw [List.getElem?_map] at h1
  cases h2 : (List.range n)[pre.length]? with
  | none => rw [h2] at h1; simp at h1
  | some y =>
    rw [h2] at h1
    obtain ⟨h3, h4⟩ := List.getElem?_eq_some_iff.1 h2
    rw [List.getElem_range] at h4
    simp at h1
    omega
theorem marksI_len (z : Int) (n : Nat) : (marksI z n).length = n := by simp [marksI]
theorem r_laws_heldIntS {fl : Bool} (k : Nat) (hk : 281474976710656 + 1 ≤ k) (z : Int) (hz : 0 ≤ z ∧ z ≤ 1099511627776) (n : Nat) (hn : n ≤ 1099511627776) :
    run E noExt k 22 [.sl fl ((marksI z n).map (AV.int .i64)), .int .i64 z] [] = some (.int .i64 (z + (n : Nat)), []) := by
  have hs : (marksI z n).length ≤ 140737488355328 := by rw [marksI_len]; omega
  have hl := marksI_len z n
  obtain ⟨k, rfl⟩ : ∃ j, k = j + 1 := ⟨k - 1, by omega⟩
  rw [run_succ rfl rfl, body_eq (nt := 21) (fn := Go.Proofs.Tryz.f22) (by kernel_rfl) rfl rfl rfl rfl rfl rfl rfl rfl]
  simp -implicitDefEqProofs only [QS, QN, Go.Proofs.Tryz.f22, SN, evCutRow, Int.reduceToNat, id_eq, Int.reduceBEq, Int.reduceLE, Int.reduceLT, SS, one_ne2, num_ne2, TIS, MDS, wanted, numbered, plainC, plainS, evEq, eqK, evBox, evAlloc, evStore, evLoad, evFieldAddr, behind, takeVal, AV.cells, AV.isCell, ofCells, ofCell, Value.cells, Nat.reduceAdd, Nat.reduceEqDiff, Nat.reduceLT, Nat.reduceLeDiff, Nat.reduceMul, Nat.reduceSub, reduceIte]
  rw [ev_loop]
  refine Eq.trans (loop_list (Q := fun (_ : Unit) x => thenEnd E.P [] _ 0 (thenEv E _ _ _ _ _ (outOf 0 x)) = some (.int .i64 (z + (n : Nat)), [])) (marksI z n) (fun _ _ _ => .inr ()) id
    (fun i _ => { sl := [(0, .sl fl ((marksI z n).map (AV.int .i64))), (1, .int .i64 (z + (i : Nat))), (5, .int .i64 (i : Nat))], bx := [], nx := 0, nt := 21 }) (fun _ _ => True) () ?_ ?_ (by omega) trivial ?_) rfl
  · intro _ _
    simp -implicitDefEqProofs only [QS, QN, QG, hl, leaf_some, isNormal, ifEv_bool, gate_bool, gateP_bool, gateQ_bool, pick_bool, SN, evCutRow, Int.reduceToNat, id_eq, Int.reduceBEq, Int.reduceLE, Int.reduceLT, firstRegion, gc, keptBoxes, keptRows, dedup, nodupB, idx, renameB, AV.boxes, AV.boxess, AV.rows, AV.rowss, AV.mapO, AV.mapOs, SS, one_ne2, num_ne2, TIS, MDS, wanted, numbered, plainC, plainS, evEq, eqK, evBox, evAlloc, evStore, evLoad, evFieldAddr, behind, takeVal, AV.cells, AV.isCell, ofCells, ofCell, Value.cells, Nat.reduceAdd, Nat.reduceEqDiff, Nat.reduceLT, Nat.reduceLeDiff, Nat.reduceMul, Nat.reduceSub, reduceIte]
    repeat' (split <;> (rename_i h; (try simp -implicitDefEqProofs only [Bool.not_eq_true', Bool.not_eq_false', decide_eq_true_eq, decide_eq_false_iff_not] at h); (try simp -implicitDefEqProofs only [QS, QN, QG, *, hl, leaf_some, isNormal, ifEv_bool, gate_bool, gateP_bool, gateQ_bool, pick_bool, SN, evCutRow, Int.reduceToNat, id_eq, Int.reduceBEq, Int.reduceLE, Int.reduceLT, firstRegion, gc, keptBoxes, keptRows, dedup, nodupB, idx, renameB, AV.boxes, AV.boxess, AV.rows, AV.rowss, AV.mapO, AV.mapOs, SS, one_ne2, num_ne2, TIS, MDS, wanted, numbered, plainC, plainS, evEq, eqK, evBox, evAlloc, evStore, evLoad, evFieldAddr, behind, takeVal, AV.cells, AV.isCell, ofCells, ofCell, Value.cells, Nat.reduceAdd, Nat.reduceEqDiff, Nat.reduceLT, Nat.reduceLeDiff, Nat.reduceMul, Nat.reduceSub, reduceIte])))
  · intro pre x r _ hs' _
    have hxe := marksI_at hs'
    have hx := (at_row hs' hs).1; have hc := (at_row hs' hs).2.1; have hlt := (at_row hs' hs).2.2.1; have hw1 := (at_row hs' hs).2.2.2.1; have hl9 := (at_row hs' hs).2.2.2.2
    have hp : pre.length < n := by have := congrArg List.length hs'; simp [marksI_len] at this; omega
    clear hs'
    have hw2 : IntKind.i64.wrap (z + (pre.length : Nat) + 1) = z + ((pre.length + 1 : Nat) : Int) := by rw [IntWalk.i64_in _ (by omega)]; omega
    have hb : ((z + ((pre.length : Nat) : Int)) == (z + ((pre.length : Nat) : Int))) = true := by simp
    subst hxe
    simp -implicitDefEqProofs only [QS, QN, QG, hx, hlt, hw1, hw2, hb, bne, keep_22_2, leaf_some, isNormal, ifEv_bool, gate_bool, gateP_bool, gateQ_bool, pick_bool, SN, evCutRow, Int.reduceToNat, id_eq, Int.reduceBEq, Int.reduceLE, Int.reduceLT, firstRegion, gc, keptBoxes, keptRows, dedup, nodupB, idx, renameB, AV.boxes, AV.boxess, AV.rows, AV.rowss, AV.mapO, AV.mapOs, SS, one_ne2, num_ne2, TIS, MDS, wanted, numbered, plainC, plainS, evEq, eqK, evBox, evAlloc, evStore, evLoad, evFieldAddr, behind, takeVal, AV.cells, AV.isCell, ofCells, ofCell, Value.cells, Nat.reduceAdd, Nat.reduceEqDiff, Nat.reduceLT, Nat.reduceLeDiff, Nat.reduceMul, Nat.reduceSub, reduceIte]
    repeat' (split <;> (rename_i h; (try simp -implicitDefEqProofs only [Bool.not_eq_true', Bool.not_eq_false', decide_eq_true_eq, decide_eq_false_iff_not] at h); (try simp -implicitDefEqProofs only [QS, QN, QG, *, hx, hlt, hw1, hw2, hb, bne, keep_22_2, leaf_some, isNormal, ifEv_bool, gate_bool, gateP_bool, gateQ_bool, pick_bool, SN, evCutRow, Int.reduceToNat, id_eq, Int.reduceBEq, Int.reduceLE, Int.reduceLT, firstRegion, gc, keptBoxes, keptRows, dedup, nodupB, idx, renameB, AV.boxes, AV.boxess, AV.rows, AV.rowss, AV.mapO, AV.mapOs, SS, one_ne2, num_ne2, TIS, MDS, wanted, numbered, plainC, plainS, evEq, eqK, evBox, evAlloc, evStore, evLoad, evFieldAddr, behind, takeVal, AV.cells, AV.isCell, ofCells, ofCell, Value.cells, Nat.reduceAdd, Nat.reduceEqDiff, Nat.reduceLT, Nat.reduceLeDiff, Nat.reduceMul, Nat.reduceSub, reduceIte])))
  · simp -implicitDefEqProofs only [firstRegion]
    rw [keep_22_2]
    have h0 : z + ((0 : Nat) : Int) = z := Int.add_zero _
    rw [h0]
    simp -implicitDefEqProofs only [QS, QN, QG, SN, evCutRow, Int.reduceToNat, id_eq, Int.reduceBEq, Int.reduceLE, Int.reduceLT, firstRegion, gc, keptBoxes, keptRows, dedup, nodupB, idx, renameB, AV.boxes, AV.boxess, AV.rows, AV.rowss, AV.mapO, AV.mapOs, SS, one_ne2, num_ne2, TIS, MDS, wanted, numbered, plainC, plainS, evEq, eqK, evBox, evAlloc, evStore, evLoad, evFieldAddr, behind, takeVal, AV.cells, AV.isCell, ofCells, ofCell, Value.cells, Nat.reduceAdd, Nat.reduceEqDiff, Nat.reduceLT, Nat.reduceLeDiff, Nat.reduceMul, Nat.reduceSub, reduceIte]
theorem r_laws_markIntS (k : Nat) (hk : 281474976710656 + 1 ≤ k) (xs : List Int) (hs0 : xs.length ≤ 1099511627776) (z : Int) (hz : 0 ≤ z ∧ z ≤ 1099511627776) :
    run E noExt k 21 [.own 0 false 3 1 (xs.map (AV.int .i64)), .int .i64 z] [] = some (.int .i64 (z + (xs.length : Nat)), [[.own 0 false 3 1 ((marksI z xs.length).map (AV.int .i64))]]) := by
  have hs : (List.range xs.length).length ≤ 140737488355328 := by rw [List.length_range]; omega
  have hl : (List.range xs.length).length = xs.length := List.length_range
  obtain ⟨k, rfl⟩ : ∃ j, k = j + 1 := ⟨k - 1, by omega⟩
  rw [run_succ rfl rfl, body_eq (nt := 19) (fn := Go.Proofs.Tryz.f21) (by kernel_rfl) rfl rfl rfl rfl rfl rfl rfl rfl]
  simp -implicitDefEqProofs only [QS, QN, QO, Go.Proofs.Tryz.f21, SO, SH, frzO, frzE, AV.laid, AV.treeV, AV.treeC, St.laid, spent, AV.subs, AV.shut, AV.scal, AV.scals, evBuildSlice, elemsOf, zeroOK, evAppend, rowOf, noref, isRef, small, import_, AV.any, AV.anys, isPtr, finV, rename, noPtr, isBad, AV.isUndef, St.setRow, AV.shutV, rebuild, isAggV, evBuild, fillCells, evCutOwn, dedup, nodupB, idx, AV.rows, AV.rowss, AV.mapO, AV.mapOs, SN, evCutRow, Int.reduceToNat, id_eq, Int.reduceBEq, Int.reduceLE, Int.reduceLT, SS, one_ne2, num_ne2, TIS, MDS, wanted, numbered, plainC, plainS, evEq, eqK, evBox, evAlloc, evStore, evLoad, evFieldAddr, behind, takeVal, AV.cells, AV.isCell, ofCells, ofCell, Value.cells, Nat.reduceAdd, Nat.reduceEqDiff, Nat.reduceLT, Nat.reduceLeDiff, Nat.reduceMul, Nat.reduceSub, reduceIte]
  rw [ev_loop]
  refine Eq.trans (loop_list (Q := fun g x => thenEnd E.P _ _ 0 (thenEv E _ _ _ _ _ (outOf 0 x)) = some (.int .i64 (z + (xs.length : Nat)), [[.own 0 false 3 1 g]])) (List.range xs.length) (mkStep fun i => .int .i64 (z + (i : Nat))) id
    (fun i b => { sl := [(0, .own 0 false 3 1 b), (1, .int .i64 (z + (i : Nat))), (5, .int .i64 (i : Nat))], bx := [], nx := 1, nt := 19 }) (fun i b => b.length = xs.length ∧ (∀ y ∈ b, ∃ z, y = AV.int .i64 z)) (xs.map (AV.int .i64)) ?_ ?_ (by omega) ⟨by simp, ?_⟩ ?_) ?_
  · intro b ⟨h1, h2⟩
    simp -implicitDefEqProofs only [QS, QN, QG, QO, hl, h1, SO, SH, frzO, frzE, AV.laid, AV.treeV, AV.treeC, St.laid, spent, AV.subs, AV.shut, AV.scal, AV.scals, evBuildSlice, elemsOf, zeroOK, evAppend, rowOf, noref, isRef, small, import_, AV.any, AV.anys, isPtr, finV, rename, noPtr, isBad, AV.isUndef, St.setRow, AV.shutV, rebuild, isAggV, evBuild, fillCells, evCutOwn, dedup, nodupB, idx, AV.rows, AV.rowss, AV.mapO, AV.mapOs, firstRegion, gc, keptBoxes, keptRows, renameB, AV.boxes, AV.boxess, leaf_some, isNormal, ifEv_bool, gate_bool, gateP_bool, gateQ_bool, pick_bool, SN, evCutRow, Int.reduceToNat, id_eq, Int.reduceBEq, Int.reduceLE, Int.reduceLT, SS, one_ne2, num_ne2, TIS, MDS, wanted, numbered, plainC, plainS, evEq, eqK, evBox, evAlloc, evStore, evLoad, evFieldAddr, behind, takeVal, AV.cells, AV.isCell, ofCells, ofCell, Value.cells, Nat.reduceAdd, Nat.reduceEqDiff, Nat.reduceLT, Nat.reduceLeDiff, Nat.reduceMul, Nat.reduceSub, reduceIte]
    repeat' (split <;> (rename_i h; (try simp -implicitDefEqProofs only [Bool.not_eq_true', Bool.not_eq_false', decide_eq_true_eq, decide_eq_false_iff_not] at h); (try simp -implicitDefEqProofs only [QS, QN, QG, QO, *, hl, h1, SO, SH, frzO, frzE, AV.laid, AV.treeV, AV.treeC, St.laid, spent, AV.subs, AV.shut, AV.scal, AV.scals, evBuildSlice, elemsOf, zeroOK, evAppend, rowOf, noref, isRef, small, import_, AV.any, AV.anys, isPtr, finV, rename, noPtr, isBad, AV.isUndef, St.setRow, AV.shutV, rebuild, isAggV, evBuild, fillCells, evCutOwn, dedup, nodupB, idx, AV.rows, AV.rowss, AV.mapO, AV.mapOs, firstRegion, gc, keptBoxes, keptRows, renameB, AV.boxes, AV.boxess, leaf_some, isNormal, ifEv_bool, gate_bool, gateP_bool, gateQ_bool, pick_bool, SN, evCutRow, Int.reduceToNat, id_eq, Int.reduceBEq, Int.reduceLE, Int.reduceLT, SS, one_ne2, num_ne2, TIS, MDS, wanted, numbered, plainC, plainS, evEq, eqK, evBox, evAlloc, evStore, evLoad, evFieldAddr, behind, takeVal, AV.cells, AV.isCell, ofCells, ofCell, Value.cells, Nat.reduceAdd, Nat.reduceEqDiff, Nat.reduceLT, Nat.reduceLeDiff, Nat.reduceMul, Nat.reduceSub, reduceIte])))
    rw [finish_mut1 rfl]
    simp -implicitDefEqProofs only [QS, QN, QG, QO, finC, SN, evCutRow, Int.reduceToNat, id_eq, Int.reduceBEq, Int.reduceLE, Int.reduceLT, SO, SH, frzO, frzE, AV.laid, AV.treeV, AV.treeC, St.laid, spent, AV.subs, AV.shut, AV.scal, AV.scals, evBuildSlice, elemsOf, zeroOK, evAppend, rowOf, noref, isRef, small, import_, AV.any, AV.anys, isPtr, finV, rename, noPtr, isBad, AV.isUndef, St.setRow, AV.shutV, rebuild, isAggV, evBuild, fillCells, evCutOwn, dedup, nodupB, idx, AV.rows, AV.rowss, AV.mapO, AV.mapOs, firstRegion, gc, keptBoxes, keptRows, renameB, AV.boxes, AV.boxess, SS, one_ne2, num_ne2, TIS, MDS, wanted, numbered, plainC, plainS, evEq, eqK, evBox, evAlloc, evStore, evLoad, evFieldAddr, behind, takeVal, AV.cells, AV.isCell, ofCells, ofCell, Value.cells, Nat.reduceAdd, Nat.reduceEqDiff, Nat.reduceLT, Nat.reduceLeDiff, Nat.reduceMul, Nat.reduceSub, reduceIte]
    all_goals trace_state
  · intro pre c r b hs' ⟨h1, h2⟩
    have hx := (at_row hs' hs).1; have hc := (at_row hs' hs).2.1; have hlt := (at_row hs' hs).2.2.1; have hw1 := (at_row hs' hs).2.2.2.1; have hl9 := (at_row hs' hs).2.2.2.2
    have hp : pre.length < xs.length := by have := congrArg List.length hs'; simp at this; omega
    have hl1 : pre.length < b.length := by omega
    have hl2 : ((pre.length : Nat) : Int) < ((b.length : Nat) : Int) := by omega
    have hw2 : IntKind.i64.wrap (z + (pre.length : Nat) + 1) = z + ((pre.length + 1 : Nat) : Int) := by rw [IntWalk.i64_in _ (by omega)]; omega
    obtain ⟨y, hy⟩ : ∃ y, b[pre.length]? = some y := ⟨_, List.getElem?_eq_getElem hl1⟩
    obtain ⟨cs, rfl⟩ := h2 y (List.mem_of_getElem? hy)
    have hset : ∀ y ∈ b.set pre.length (AV.int .i64 (z + (pre.length : Nat))), ∃ cs, y = AV.int .i64 cs := by
      intro y hy
      rcases List.mem_or_eq_of_mem_set hy with hy | rfl
      · exact h2 y hy
      · exact ⟨_, rfl⟩
    clear hs'
    simp -implicitDefEqProofs only [QS, QN, QG, QO, hlt, hl2, hw1, hw2, hy, mkStep, SO, SH, frzO, frzE, AV.laid, AV.treeV, AV.treeC, St.laid, spent, AV.subs, AV.shut, AV.scal, AV.scals, evBuildSlice, elemsOf, zeroOK, evAppend, rowOf, noref, isRef, small, import_, AV.any, AV.anys, isPtr, finV, rename, noPtr, isBad, AV.isUndef, St.setRow, AV.shutV, rebuild, isAggV, evBuild, fillCells, evCutOwn, dedup, nodupB, idx, AV.rows, AV.rowss, AV.mapO, AV.mapOs, firstRegion, gc, keptBoxes, keptRows, renameB, AV.boxes, AV.boxess, keep_21_2, leaf_some, isNormal, ifEv_bool, gate_bool, gateP_bool, gateQ_bool, pick_bool, SN, evCutRow, Int.reduceToNat, id_eq, Int.reduceBEq, Int.reduceLE, Int.reduceLT, SS, one_ne2, num_ne2, TIS, MDS, wanted, numbered, plainC, plainS, evEq, eqK, evBox, evAlloc, evStore, evLoad, evFieldAddr, behind, takeVal, AV.cells, AV.isCell, ofCells, ofCell, Value.cells, Nat.reduceAdd, Nat.reduceEqDiff, Nat.reduceLT, Nat.reduceLeDiff, Nat.reduceMul, Nat.reduceSub, reduceIte]
    repeat' (split <;> (rename_i h; (try simp -implicitDefEqProofs only [Bool.not_eq_true', Bool.not_eq_false', decide_eq_true_eq, decide_eq_false_iff_not] at h); (try simp -implicitDefEqProofs only [QS, QN, QG, QO, *, hlt, hl2, hw1, hw2, hy, mkStep, SO, SH, frzO, frzE, AV.laid, AV.treeV, AV.treeC, St.laid, spent, AV.subs, AV.shut, AV.scal, AV.scals, evBuildSlice, elemsOf, zeroOK, evAppend, rowOf, noref, isRef, small, import_, AV.any, AV.anys, isPtr, finV, rename, noPtr, isBad, AV.isUndef, St.setRow, AV.shutV, rebuild, isAggV, evBuild, fillCells, evCutOwn, dedup, nodupB, idx, AV.rows, AV.rowss, AV.mapO, AV.mapOs, firstRegion, gc, keptBoxes, keptRows, renameB, AV.boxes, AV.boxess, keep_21_2, leaf_some, isNormal, ifEv_bool, gate_bool, gateP_bool, gateQ_bool, pick_bool, SN, evCutRow, Int.reduceToNat, id_eq, Int.reduceBEq, Int.reduceLE, Int.reduceLT, SS, one_ne2, num_ne2, TIS, MDS, wanted, numbered, plainC, plainS, evEq, eqK, evBox, evAlloc, evStore, evLoad, evFieldAddr, behind, takeVal, AV.cells, AV.isCell, ofCells, ofCell, Value.cells, Nat.reduceAdd, Nat.reduceEqDiff, Nat.reduceLT, Nat.reduceLeDiff, Nat.reduceMul, Nat.reduceSub, reduceIte])))
    exact ⟨by rw [List.length_set, h1], hset⟩
  · intro y hy
    obtain ⟨c, _, rfl⟩ := List.mem_map.1 hy
    exact ⟨_, rfl⟩
  · simp -implicitDefEqProofs only [firstRegion]
    rw [keep_21_2]
    have h0 : z + ((0 : Nat) : Int) = z := Int.add_zero _
    rw [h0]
    simp -implicitDefEqProofs only [QS, QN, QG, QO, SN, evCutRow, Int.reduceToNat, id_eq, Int.reduceBEq, Int.reduceLE, Int.reduceLT, SO, SH, frzO, frzE, AV.laid, AV.treeV, AV.treeC, St.laid, spent, AV.subs, AV.shut, AV.scal, AV.scals, evBuildSlice, elemsOf, zeroOK, evAppend, rowOf, noref, isRef, small, import_, AV.any, AV.anys, isPtr, finV, rename, noPtr, isBad, AV.isUndef, St.setRow, AV.shutV, rebuild, isAggV, evBuild, fillCells, evCutOwn, dedup, nodupB, idx, AV.rows, AV.rowss, AV.mapO, AV.mapOs, firstRegion, gc, keptBoxes, keptRows, renameB, AV.boxes, AV.boxess, SS, one_ne2, num_ne2, TIS, MDS, wanted, numbered, plainC, plainS, evEq, eqK, evBox, evAlloc, evStore, evLoad, evFieldAddr, behind, takeVal, AV.cells, AV.isCell, ofCells, ofCell, Value.cells, Nat.reduceAdd, Nat.reduceEqDiff, Nat.reduceLT, Nat.reduceLeDiff, Nat.reduceMul, Nat.reduceSub, reduceIte]
  · rw [mkLoop _ _ _ _ (by simp)]
    simp -implicitDefEqProofs only [List.take_zero, List.nil_append, hl, Nat.zero_add, marksI, List.map_map]
    rfl
end Go.Proofs.YtfiapiobaelgoaaGreat.Flat
