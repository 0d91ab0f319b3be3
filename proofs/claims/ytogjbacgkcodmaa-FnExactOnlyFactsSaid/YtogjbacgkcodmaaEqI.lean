/-
Roles under roles, epochs as they should be.
-/
import Derived.Test.YtogjbacgkcodmaaEqG
import Derived.Test.YtogjbacgkcodmaaEqH
import Derived.Test.YtogjbacgkcodmaaEqR
set_option linter.unusedVariables false
set_option linter.unusedSimpArgs false
set_option maxRecDepth 10000
namespace Go.Proofs.Ytogjbacgkcodmaa.Flat
def hasStep (x : Int) (_ : Nat) (c : Int) (b : Unit) : Sum Bool Unit := if (c == x) = true then .inl true else .inr b
theorem hasLoop (x : Int) (s : List Int) (i : Nat) (b : Unit) : loopL (hasStep x) (fun _ => false) i s b = s.any (fun c => c == x) := by
  induction s generalizing i with
  | nil => rfl
  | cons c r ih => simp -implicitDefEqProofs only [loopL, hasStep, List.any_cons]; cases h : c == x <;> simp [ih]
theorem r_spec_l13Has {fl : Bool} (k : Nat) (hk : 281474976710656 + 1 ≤ k) (s : List Int) (hs : s.length ≤ 140737488355328) (x : Int) : run E noExt k 77 [.sl fl (s.map (AV.int .i64)), .int .i64 x] [] = some (.bool (s.any (fun c => c == x)), []) := by
  obtain ⟨k, rfl⟩ : ∃ j, k = j + 1 := ⟨k - 1, by omega⟩
  rw [run_succ rfl rfl, body_eq (nt := 18) (fn := Go.Proofs.Try.f77) (by kernel_rfl) rfl rfl rfl rfl rfl rfl rfl rfl]
  simp -implicitDefEqProofs only [QS, QN, Go.Proofs.Try.f77, SN, evCutRow, Int.reduceToNat, id_eq, Int.reduceBEq, Int.reduceLE, Int.reduceLT, SS, TIS, MDS, wanted, numbered, plainC, plainS, evEq, eqK, evBox, evAlloc, evStore, evLoad, evFieldAddr, behind, takeVal, AV.cells, AV.isCell, ofCells, ofCell, Value.cells, Nat.reduceAdd, Nat.reduceEqDiff, Nat.reduceLT, Nat.reduceLeDiff, Nat.reduceMul, Nat.reduceSub, reduceIte]
  rw [ev_loop]
  refine Eq.trans (loop_list (Q := fun g x => thenEnd E.P [] _ 0 (thenEv E _ _ _ _ _ (outOf 0 x)) = some (.bool g, [])) (s) (hasStep x) (fun _ => false)
    (fun i b => { sl := [(0, .sl fl (s.map (AV.int .i64))), (1, .int .i64 x), (5, .int .i64 (i : Nat))], bx := [], nx := 0, nt := 18 }) (fun _ _ => True) (()) ?_ ?_ (by first | omega | (simp; omega)) (trivial) ?_) ?_
  · intro b hb
    simp -implicitDefEqProofs only [QS, QN, QG, leaf_some, isNormal, ifEv_bool, gate_bool, gateP_bool, gateQ_bool, pick_bool, SN, evCutRow, Int.reduceToNat, id_eq, Int.reduceBEq, Int.reduceLE, Int.reduceLT, firstRegion, gc, keptBoxes, keptRows, dedup, nodupB, idx, renameB, AV.boxes, AV.boxess, AV.rows, AV.rowss, AV.mapO, AV.mapOs, SS, TIS, MDS, wanted, numbered, plainC, plainS, evEq, eqK, evBox, evAlloc, evStore, evLoad, evFieldAddr, behind, takeVal, AV.cells, AV.isCell, ofCells, ofCell, Value.cells, Nat.reduceAdd, Nat.reduceEqDiff, Nat.reduceLT, Nat.reduceLeDiff, Nat.reduceMul, Nat.reduceSub, reduceIte]
    repeat' (split <;> (rename_i h; (try simp -implicitDefEqProofs only [Bool.not_eq_true', Bool.not_eq_false', decide_eq_true_eq, decide_eq_false_iff_not] at h); (try simp -implicitDefEqProofs only [QS, QN, QG, *, leaf_some, isNormal, ifEv_bool, gate_bool, gateP_bool, gateQ_bool, pick_bool, SN, evCutRow, Int.reduceToNat, id_eq, Int.reduceBEq, Int.reduceLE, Int.reduceLT, firstRegion, gc, keptBoxes, keptRows, dedup, nodupB, idx, renameB, AV.boxes, AV.boxess, AV.rows, AV.rowss, AV.mapO, AV.mapOs, SS, TIS, MDS, wanted, numbered, plainC, plainS, evEq, eqK, evBox, evAlloc, evStore, evLoad, evFieldAddr, behind, takeVal, AV.cells, AV.isCell, ofCells, ofCell, Value.cells, Nat.reduceAdd, Nat.reduceEqDiff, Nat.reduceLT, Nat.reduceLeDiff, Nat.reduceMul, Nat.reduceSub, reduceIte])))
  · intro pre c r b hs' hb
    have hx := (at_row hs' hs).1; have hc := (at_row hs' hs).2.1; have hlt := (at_row hs' hs).2.2.1; have hw1 := (at_row hs' hs).2.2.2.1; have hl9 := (at_row hs' hs).2.2.2.2
    clear hs'
    simp -implicitDefEqProofs only [QS, QN, QG, hx, hlt, hw1, hasStep, keep_77_2, leaf_some, isNormal, ifEv_bool, gate_bool, gateP_bool, gateQ_bool, pick_bool, SN, evCutRow, Int.reduceToNat, id_eq, Int.reduceBEq, Int.reduceLE, Int.reduceLT, firstRegion, gc, keptBoxes, keptRows, dedup, nodupB, idx, renameB, AV.boxes, AV.boxess, AV.rows, AV.rowss, AV.mapO, AV.mapOs, SS, TIS, MDS, wanted, numbered, plainC, plainS, evEq, eqK, evBox, evAlloc, evStore, evLoad, evFieldAddr, behind, takeVal, AV.cells, AV.isCell, ofCells, ofCell, Value.cells, Nat.reduceAdd, Nat.reduceEqDiff, Nat.reduceLT, Nat.reduceLeDiff, Nat.reduceMul, Nat.reduceSub, reduceIte]
    repeat' (split <;> (rename_i h; (try simp -implicitDefEqProofs only [Bool.not_eq_true', Bool.not_eq_false', decide_eq_true_eq, decide_eq_false_iff_not] at h); (try simp -implicitDefEqProofs only [QS, QN, QG, *, hx, hlt, hw1, hasStep, keep_77_2, leaf_some, isNormal, ifEv_bool, gate_bool, gateP_bool, gateQ_bool, pick_bool, SN, evCutRow, Int.reduceToNat, id_eq, Int.reduceBEq, Int.reduceLE, Int.reduceLT, firstRegion, gc, keptBoxes, keptRows, dedup, nodupB, idx, renameB, AV.boxes, AV.boxess, AV.rows, AV.rowss, AV.mapO, AV.mapOs, SS, TIS, MDS, wanted, numbered, plainC, plainS, evEq, eqK, evBox, evAlloc, evStore, evLoad, evFieldAddr, behind, takeVal, AV.cells, AV.isCell, ofCells, ofCell, Value.cells, Nat.reduceAdd, Nat.reduceEqDiff, Nat.reduceLT, Nat.reduceLeDiff, Nat.reduceMul, Nat.reduceSub, reduceIte])))
  · simp -implicitDefEqProofs only [firstRegion]; rw [keep_77_2]; simp -implicitDefEqProofs only [QS, QN, QG, SN, evCutRow, Int.reduceToNat, id_eq, Int.reduceBEq, Int.reduceLE, Int.reduceLT, firstRegion, gc, keptBoxes, keptRows, dedup, nodupB, idx, renameB, AV.boxes, AV.boxess, AV.rows, AV.rowss, AV.mapO, AV.mapOs, SS, TIS, MDS, wanted, numbered, plainC, plainS, evEq, eqK, evBox, evAlloc, evStore, evLoad, evFieldAddr, behind, takeVal, AV.cells, AV.isCell, ofCells, ofCell, Value.cells, Nat.reduceAdd, Nat.reduceEqDiff, Nat.reduceLT, Nat.reduceLeDiff, Nat.reduceMul, Nat.reduceSub, reduceIte]; first | done | rfl
  · rw [hasLoop]
/-! ### a row of marks in a variable -/
/-- The roles under a role, by the marks. -/
def under (m : List Bool) (n : Nat) : List Int := ((List.range n).filter fun i => (m[i]?).getD false).map Int.ofNat
end Go.Proofs.Ytogjbacgkcodmaa.Flat
