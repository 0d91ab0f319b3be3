/-
Epochs and leases: looked up, compared, taken.
-/
import Derived.Test.YthjnobdeinodfaaEqE
import Derived.Test.YthjnobdeinodfaaEqG
set_option linter.unusedVariables false
set_option linter.unusedSimpArgs false
set_option maxRecDepth 10000
namespace Go.Proofs.Ythjnobdeinodfaa.Flat
def newest (s : List Epoch) : Int := ((s.getLast?).map Epoch.number).getD 0
theorem newest_nil : newest [] = 0 := rfl
theorem newest_snoc (s : List Epoch) (e : Epoch) : newest (s ++ [e]) = e.number := by simp [newest]
theorem r_spec_NewestNumber {fl : Bool} (k : Nat) (hk : 281474976710656 + 1 ≤ k) (s : List Epoch) (hs : s.length ≤ 140737488355328) : run E noExt k 12 [.sl fl (s.map (Epoch.enc fl))] [] = some (.int .i64 (newest s), []) := by
  obtain ⟨k, rfl⟩ : ∃ j, k = j + 1 := ⟨k - 1, by omega⟩
  rw [run_succ rfl rfl, body_eq (nt := 13) (fn := Go.Proofs.Try.f12) (by kernel_rfl) rfl rfl rfl rfl rfl rfl rfl rfl]
  rcases List.eq_nil_or_concat s with rfl | ⟨p, e, rfl⟩
  · simp -implicitDefEqProofs only [QS, QN, Go.Proofs.Try.f12, newest_nil, ifEv_bool, SN, evCutRow, Int.reduceToNat, id_eq, Int.reduceBEq, Int.reduceLE, Int.reduceLT, SS, one_ne2, num_ne2, TIS, MDS, wanted, numbered, plainC, plainS, evEq, eqK, evBox, evAlloc, evStore, evLoad, evFieldAddr, behind, takeVal, AV.cells, AV.isCell, ofCells, ofCell, Value.cells, Nat.reduceAdd, Nat.reduceEqDiff, Nat.reduceLT, Nat.reduceLeDiff, Nat.reduceMul, Nat.reduceSub, reduceIte]
  · rw [List.concat_eq_append] at hs ⊢
    have hl : (p ++ [e]).length = p.length + 1 := by simp
    have h0 : ((((p ++ [e]).length : Nat) : Int) == 0) = false := by rw [hl]; simp; omega
    have hw : IntKind.i64.wrap (((p.length + 1 : Nat) : Int) - 1) = (p.length : Nat) := by rw [IntWalk.i64_in _ (by omega)]; omega
    have hx : (p ++ [e])[p.length]? = some e := by simp
    have h0' : (((p.length + 1 : Nat) : Int) == 0) = false := by rw [hl] at h0; exact h0
    simp -implicitDefEqProofs only [QS, QN, newest_snoc, Go.Proofs.Try.f12, hl, h0', hw, hx, enc_Epoch, ifEv_bool, SN, evCutRow, Int.reduceToNat, id_eq, Int.reduceBEq, Int.reduceLE, Int.reduceLT, SS, one_ne2, num_ne2, TIS, MDS, wanted, numbered, plainC, plainS, evEq, eqK, evBox, evAlloc, evStore, evLoad, evFieldAddr, behind, takeVal, AV.cells, AV.isCell, ofCells, ofCell, Value.cells, Nat.reduceAdd, Nat.reduceEqDiff, Nat.reduceLT, Nat.reduceLeDiff, Nat.reduceMul, Nat.reduceSub, reduceIte]
theorem r_impl_NewestNumber {fl : Bool} (k : Nat) (hk : 281474976710656 + 1 ≤ k) (s : List Epoch) (hs : s.length ≤ 140737488355328) : run E noExt k 8 [.sl fl (s.map (Epoch.enc fl))] [] = some (.int .i64 (newest s), []) := by
  obtain ⟨k, rfl⟩ : ∃ j, k = j + 1 := ⟨k - 1, by omega⟩
  rw [run_succ rfl rfl, body_eq (nt := 13) (fn := Go.Proofs.Try.f8) (by kernel_rfl) rfl rfl rfl rfl rfl rfl rfl rfl]
  rcases List.eq_nil_or_concat s with rfl | ⟨p, e, rfl⟩
  · simp -implicitDefEqProofs only [QS, QN, Go.Proofs.Try.f8, newest_nil, ifEv_bool, SN, evCutRow, Int.reduceToNat, id_eq, Int.reduceBEq, Int.reduceLE, Int.reduceLT, SS, one_ne2, num_ne2, TIS, MDS, wanted, numbered, plainC, plainS, evEq, eqK, evBox, evAlloc, evStore, evLoad, evFieldAddr, behind, takeVal, AV.cells, AV.isCell, ofCells, ofCell, Value.cells, Nat.reduceAdd, Nat.reduceEqDiff, Nat.reduceLT, Nat.reduceLeDiff, Nat.reduceMul, Nat.reduceSub, reduceIte]
  · rw [List.concat_eq_append] at hs ⊢
    have hl : (p ++ [e]).length = p.length + 1 := by simp
    have h0 : ((((p ++ [e]).length : Nat) : Int) == 0) = false := by rw [hl]; simp; omega
    have hw : IntKind.i64.wrap (((p.length + 1 : Nat) : Int) - 1) = (p.length : Nat) := by rw [IntWalk.i64_in _ (by omega)]; omega
    have hx : (p ++ [e])[p.length]? = some e := by simp
    have h0' : (((p.length + 1 : Nat) : Int) == 0) = false := by rw [hl] at h0; exact h0
    simp -implicitDefEqProofs only [QS, QN, newest_snoc, Go.Proofs.Try.f8, hl, h0', hw, hx, enc_Epoch, ifEv_bool, SN, evCutRow, Int.reduceToNat, id_eq, Int.reduceBEq, Int.reduceLE, Int.reduceLT, SS, one_ne2, num_ne2, TIS, MDS, wanted, numbered, plainC, plainS, evEq, eqK, evBox, evAlloc, evStore, evLoad, evFieldAddr, behind, takeVal, AV.cells, AV.isCell, ofCells, ofCell, Value.cells, Nat.reduceAdd, Nat.reduceEqDiff, Nat.reduceLT, Nat.reduceLeDiff, Nat.reduceMul, Nat.reduceSub, reduceIte]
def natStep (t : Int) (_ : Nat) (e : Epoch) (b : Int) : Sum Int Int := .inr (if e.at_ ≤ t then e.number else b)
def numberAt (s : List Epoch) (t : Int) : Int := s.foldl (fun b e => if e.at_ ≤ t then e.number else b) 0
theorem natLoop (t : Int) : ∀ (s : List Epoch) (i : Nat) (b : Int), loopL (natStep t) id i s b = s.foldl (fun b e => if e.at_ ≤ t then e.number else b) b
  | [], i, b => rfl
  | e :: r, i, b => by simp -implicitDefEqProofs only [loopL, natStep, List.foldl_cons]; exact natLoop t r _ _
theorem r_impl_NumberAt {fl : Bool} (k : Nat) (hk : 281474976710656 + 1 ≤ k) (s : List Epoch) (hs : s.length ≤ 140737488355328) (t : Int) : run E noExt k 9 [.sl fl (s.map (Epoch.enc fl)), .int .i64 t] [] = some (.int .i64 (numberAt s t), []) := by
  obtain ⟨k, rfl⟩ : ∃ j, k = j + 1 := ⟨k - 1, by omega⟩
  rw [run_succ rfl rfl, body_eq (nt := 22) (fn := Go.Proofs.Try.f9) (by kernel_rfl) rfl rfl rfl rfl rfl rfl rfl rfl]
  simp -implicitDefEqProofs only [QS, QN, Go.Proofs.Try.f9, SN, evCutRow, Int.reduceToNat, id_eq, Int.reduceBEq, Int.reduceLE, Int.reduceLT, SS, one_ne2, num_ne2, TIS, MDS, wanted, numbered, plainC, plainS, evEq, eqK, evBox, evAlloc, evStore, evLoad, evFieldAddr, behind, takeVal, AV.cells, AV.isCell, ofCells, ofCell, Value.cells, Nat.reduceAdd, Nat.reduceEqDiff, Nat.reduceLT, Nat.reduceLeDiff, Nat.reduceMul, Nat.reduceSub, reduceIte]
  rw [ev_loop]
  refine Eq.trans (loop_list (Q := fun g x => thenEnd E.P [] _ 0 (thenEv E _ _ _ _ _ (outOf 0 x)) = some (.int .i64 g, [])) (s) (natStep t) (id)
    (fun i b => { sl := [(1, .int .i64 t), (5, .int .i64 b), (8, .sl fl (s.map (Epoch.enc fl))), (9, .int .i64 (s.length : Nat)), (10, .int .i64 (i : Nat))], bx := [], nx := 0, nt := 22 }) (fun _ _ => True) (0) ?_ ?_ (by first | omega | (simp; omega)) (trivial) ?_) ?_
  · intro b hb
    simp -implicitDefEqProofs only [QS, QN, QG, leaf_some, isNormal, ifEv_bool, gate_bool, gateP_bool, gateQ_bool, pick_bool, SN, evCutRow, Int.reduceToNat, id_eq, Int.reduceBEq, Int.reduceLE, Int.reduceLT, firstRegion, gc, keptBoxes, keptRows, dedup, nodupB, idx, renameB, AV.boxes, AV.boxess, AV.rows, AV.rowss, AV.mapO, AV.mapOs, SS, one_ne2, num_ne2, TIS, MDS, wanted, numbered, plainC, plainS, evEq, eqK, evBox, evAlloc, evStore, evLoad, evFieldAddr, behind, takeVal, AV.cells, AV.isCell, ofCells, ofCell, Value.cells, Nat.reduceAdd, Nat.reduceEqDiff, Nat.reduceLT, Nat.reduceLeDiff, Nat.reduceMul, Nat.reduceSub, reduceIte]
    repeat' (split <;> (rename_i h; (try simp -implicitDefEqProofs only [Bool.not_eq_true', Bool.not_eq_false', decide_eq_true_eq, decide_eq_false_iff_not] at h); (try simp -implicitDefEqProofs only [QS, QN, QG, *, leaf_some, isNormal, ifEv_bool, gate_bool, gateP_bool, gateQ_bool, pick_bool, SN, evCutRow, Int.reduceToNat, id_eq, Int.reduceBEq, Int.reduceLE, Int.reduceLT, firstRegion, gc, keptBoxes, keptRows, dedup, nodupB, idx, renameB, AV.boxes, AV.boxess, AV.rows, AV.rowss, AV.mapO, AV.mapOs, SS, one_ne2, num_ne2, TIS, MDS, wanted, numbered, plainC, plainS, evEq, eqK, evBox, evAlloc, evStore, evLoad, evFieldAddr, behind, takeVal, AV.cells, AV.isCell, ofCells, ofCell, Value.cells, Nat.reduceAdd, Nat.reduceEqDiff, Nat.reduceLT, Nat.reduceLeDiff, Nat.reduceMul, Nat.reduceSub, reduceIte])))
  · intro pre c r b hs' hb
    have hx := (at_row hs' hs).1; have hc := (at_row hs' hs).2.1; have hlt := (at_row hs' hs).2.2.1; have hw1 := (at_row hs' hs).2.2.2.1; have hl9 := (at_row hs' hs).2.2.2.2
    clear hs'
    simp -implicitDefEqProofs only [QS, QN, QG, enc_Epoch, hx, hlt, hw1, natStep, keep_9_3, leaf_some, isNormal, ifEv_bool, gate_bool, gateP_bool, gateQ_bool, pick_bool, SN, evCutRow, Int.reduceToNat, id_eq, Int.reduceBEq, Int.reduceLE, Int.reduceLT, firstRegion, gc, keptBoxes, keptRows, dedup, nodupB, idx, renameB, AV.boxes, AV.boxess, AV.rows, AV.rowss, AV.mapO, AV.mapOs, SS, one_ne2, num_ne2, TIS, MDS, wanted, numbered, plainC, plainS, evEq, eqK, evBox, evAlloc, evStore, evLoad, evFieldAddr, behind, takeVal, AV.cells, AV.isCell, ofCells, ofCell, Value.cells, Nat.reduceAdd, Nat.reduceEqDiff, Nat.reduceLT, Nat.reduceLeDiff, Nat.reduceMul, Nat.reduceSub, reduceIte]
    repeat' (split <;> (rename_i h; (try simp -implicitDefEqProofs only [Bool.not_eq_true', Bool.not_eq_false', decide_eq_true_eq, decide_eq_false_iff_not] at h); (try simp -implicitDefEqProofs only [QS, QN, QG, *, enc_Epoch, hx, hlt, hw1, natStep, keep_9_3, leaf_some, isNormal, ifEv_bool, gate_bool, gateP_bool, gateQ_bool, pick_bool, SN, evCutRow, Int.reduceToNat, id_eq, Int.reduceBEq, Int.reduceLE, Int.reduceLT, firstRegion, gc, keptBoxes, keptRows, dedup, nodupB, idx, renameB, AV.boxes, AV.boxess, AV.rows, AV.rowss, AV.mapO, AV.mapOs, SS, one_ne2, num_ne2, TIS, MDS, wanted, numbered, plainC, plainS, evEq, eqK, evBox, evAlloc, evStore, evLoad, evFieldAddr, behind, takeVal, AV.cells, AV.isCell, ofCells, ofCell, Value.cells, Nat.reduceAdd, Nat.reduceEqDiff, Nat.reduceLT, Nat.reduceLeDiff, Nat.reduceMul, Nat.reduceSub, reduceIte])))
  · simp -implicitDefEqProofs only [firstRegion]; rw [keep_9_3]; simp -implicitDefEqProofs only [QS, QN, QG, SN, evCutRow, Int.reduceToNat, id_eq, Int.reduceBEq, Int.reduceLE, Int.reduceLT, firstRegion, gc, keptBoxes, keptRows, dedup, nodupB, idx, renameB, AV.boxes, AV.boxess, AV.rows, AV.rowss, AV.mapO, AV.mapOs, SS, one_ne2, num_ne2, TIS, MDS, wanted, numbered, plainC, plainS, evEq, eqK, evBox, evAlloc, evStore, evLoad, evFieldAddr, behind, takeVal, AV.cells, AV.isCell, ofCells, ofCell, Value.cells, Nat.reduceAdd, Nat.reduceEqDiff, Nat.reduceLT, Nat.reduceLeDiff, Nat.reduceMul, Nat.reduceSub, reduceIte]; first | done | rfl
  · rw [natLoop]; rfl
def findEpoch (s : List Epoch) (n : Int) : Int := indexBy (fun e => e.number == n) 0 s
theorem r_impl_FindEpoch {fl : Bool} (k : Nat) (hk : 281474976710656 + 3 ≤ k) (s : List Epoch) (hs : s.length ≤ 140737488355328) (n : Int) : run E noExt k 10 [.sl fl (s.map (Epoch.enc fl)), .int .i64 n] [] = some (.int .i64 (findEpoch s n), []) := by
  have c1 := r_slices_IndexFunc_Epoch (fl := fl) (k - 1) s (by omega) hs 24 [.cptr [.int .i64 n]] (plain_of rfl) (fun e => e.number == n) (fun x _ => by
    rw [show k - 1 - 1 = (k - 3) + 1 by omega]
    rw [run_succ rfl rfl, body_eq (nt := 8) (fn := Go.Proofs.Try.f24) (by kernel_rfl) rfl rfl rfl rfl rfl rfl rfl rfl]
    simp -implicitDefEqProofs only [QS, QN, enc_Epoch, Go.Proofs.Try.f24, SN, evCutRow, Int.reduceToNat, id_eq, Int.reduceBEq, Int.reduceLE, Int.reduceLT, SS, one_ne2, num_ne2, TIS, MDS, wanted, numbered, plainC, plainS, evEq, eqK, evBox, evAlloc, evStore, evLoad, evFieldAddr, behind, takeVal, AV.cells, AV.isCell, ofCells, ofCell, Value.cells, Nat.reduceAdd, Nat.reduceEqDiff, Nat.reduceLT, Nat.reduceLeDiff, Nat.reduceMul, Nat.reduceSub, reduceIte])
  obtain ⟨k, rfl⟩ : ∃ j, k = j + 1 := ⟨k - 1, by omega⟩
  rw [run_succ rfl rfl, body_eq (nt := 8) (fn := Go.Proofs.Try.f10) (by kernel_rfl) rfl rfl rfl rfl rfl rfl rfl rfl]
  simp -implicitDefEqProofs only [Nat.add_sub_cancel] at c1
  simp -implicitDefEqProofs only [QS, QN, Go.Proofs.Try.f10, c1, SN, evCutRow, Int.reduceToNat, id_eq, Int.reduceBEq, Int.reduceLE, Int.reduceLT, SS, one_ne2, num_ne2, TIS, MDS, wanted, numbered, plainC, plainS, evEq, eqK, evBox, evAlloc, evStore, evLoad, evFieldAddr, behind, takeVal, AV.cells, AV.isCell, ofCells, ofCell, Value.cells, Nat.reduceAdd, Nat.reduceEqDiff, Nat.reduceLT, Nat.reduceLeDiff, Nat.reduceMul, Nat.reduceSub, reduceIte]
  rfl
end Go.Proofs.Ythjnobdeinodfaa.Flat
