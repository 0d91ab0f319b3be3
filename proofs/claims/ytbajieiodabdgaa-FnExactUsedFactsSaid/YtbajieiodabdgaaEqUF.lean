/-
Facts that a condition uses.
-/
import Derived.Test.YtbajieiodabdgaaEqCB
import Derived.Test.YtbajieiodabdgaaEqF
import Derived.Test.YtbajieiodabdgaaEqP
set_option linter.unusedVariables false
set_option linter.unusedSimpArgs false
set_option maxRecDepth 10000
namespace Go.Proofs.Ytbajieiodabdgaa.Flat
noncomputable def touches (x : Cond) (f : Fact) (q : Request) : Bool :=
  if holdsAt f q.now x.b = false then false
  else if (x.op == 2) = true then (f.kind == 1) && (f.subject == q.person)
  else if (x.op == 3) = true then ((f.kind == 2) && (f.subject == q.person)) && (f.value == q.device)
  else if (x.op == 4) = true then (f.kind == 3) && (f.subject == q.device)
  else if (x.op == 5) = true then (f.kind == 4) && (f.subject == q.program)
  else false
theorem r_spec_l18Touches {fl f2 f3 : Bool} (k : Nat) (hk : 281474976710656 + 8 ≤ k) (x : Cond) (f : Fact) (q : Request) :
    run E noExt k 81 [x.enc fl, f.enc f2, q.enc f3] [] = some (.bool (touches x f q), []) := by
  have c1 := r_spec_HoldsAt (fl := f2) (k - 1) (by omega) f q.now x.b
  obtain ⟨k, rfl⟩ : ∃ j, k = j + 1 := ⟨k - 1, by omega⟩
  rw [run_succ rfl rfl, body_eq (nt := 71) (fn := Go.Proofs.Try.f81) (by kernel_rfl) rfl rfl rfl rfl rfl rfl rfl rfl]
  simp -implicitDefEqProofs only [Nat.add_sub_cancel, enc_Fact] at c1
  unfold touches
  cases hh : holdsAt f q.now x.b with
  | false =>
    rw [hh] at c1
    simp -implicitDefEqProofs only [QS, QN, Go.Proofs.Try.f81, enc_Cond, enc_Fact, enc_Request, c1, ifEv_bool, if_true, SN, evCutRow, Int.reduceToNat, id_eq, Int.reduceBEq, Int.reduceLE, Int.reduceLT, SS, one_ne2, TIS, MDS, wanted, numbered, plainC, plainS, evEq, eqK, evBox, evAlloc, evStore, evLoad, evFieldAddr, behind, takeVal, AV.cells, AV.isCell, ofCells, ofCell, Value.cells, Nat.reduceAdd, Nat.reduceEqDiff, Nat.reduceLT, Nat.reduceLeDiff, Nat.reduceMul, Nat.reduceSub, reduceIte]
  | true =>
    rw [hh] at c1
    cases e2 : (x.op == 2) with
    | true => cases g1 : (f.kind == 1) <;> cases g2 : (f.subject == q.person) <;> simp -implicitDefEqProofs only [QS, QN, Go.Proofs.Try.f81, enc_Cond, enc_Fact, enc_Request, c1, ifEv_bool, gate_bool, pick_bool, Bool.true_eq_false, if_false, if_true, e2, g1, g2, SN, evCutRow, Int.reduceToNat, id_eq, Int.reduceBEq, Int.reduceLE, Int.reduceLT, SS, one_ne2, TIS, MDS, wanted, numbered, plainC, plainS, evEq, eqK, evBox, evAlloc, evStore, evLoad, evFieldAddr, behind, takeVal, AV.cells, AV.isCell, ofCells, ofCell, Value.cells, Nat.reduceAdd, Nat.reduceEqDiff, Nat.reduceLT, Nat.reduceLeDiff, Nat.reduceMul, Nat.reduceSub, reduceIte]
    | false =>
      cases e3 : (x.op == 3) with
      | true => cases g1 : (f.kind == 2) <;> cases g2 : (f.subject == q.person) <;> cases g3 : (f.value == q.device) <;> simp -implicitDefEqProofs only [QS, QN, Go.Proofs.Try.f81, enc_Cond, enc_Fact, enc_Request, c1, ifEv_bool, gate_bool, pick_bool, Bool.true_eq_false, if_false, if_true, e2, e3, g1, g2, g3, SN, evCutRow, Int.reduceToNat, id_eq, Int.reduceBEq, Int.reduceLE, Int.reduceLT, SS, one_ne2, TIS, MDS, wanted, numbered, plainC, plainS, evEq, eqK, evBox, evAlloc, evStore, evLoad, evFieldAddr, behind, takeVal, AV.cells, AV.isCell, ofCells, ofCell, Value.cells, Nat.reduceAdd, Nat.reduceEqDiff, Nat.reduceLT, Nat.reduceLeDiff, Nat.reduceMul, Nat.reduceSub, reduceIte]
      | false =>
        cases e4 : (x.op == 4) with
        | true => cases g1 : (f.kind == 3) <;> cases g2 : (f.subject == q.device) <;> simp -implicitDefEqProofs only [QS, QN, Go.Proofs.Try.f81, enc_Cond, enc_Fact, enc_Request, c1, ifEv_bool, gate_bool, pick_bool, Bool.true_eq_false, if_false, if_true, e2, e3, e4, g1, g2, SN, evCutRow, Int.reduceToNat, id_eq, Int.reduceBEq, Int.reduceLE, Int.reduceLT, SS, one_ne2, TIS, MDS, wanted, numbered, plainC, plainS, evEq, eqK, evBox, evAlloc, evStore, evLoad, evFieldAddr, behind, takeVal, AV.cells, AV.isCell, ofCells, ofCell, Value.cells, Nat.reduceAdd, Nat.reduceEqDiff, Nat.reduceLT, Nat.reduceLeDiff, Nat.reduceMul, Nat.reduceSub, reduceIte]
        | false =>
          cases e5 : (x.op == 5) with
          | true => cases g1 : (f.kind == 4) <;> cases g2 : (f.subject == q.program) <;> simp -implicitDefEqProofs only [QS, QN, Go.Proofs.Try.f81, enc_Cond, enc_Fact, enc_Request, c1, ifEv_bool, gate_bool, pick_bool, Bool.true_eq_false, if_false, if_true, e2, e3, e4, e5, g1, g2, SN, evCutRow, Int.reduceToNat, id_eq, Int.reduceBEq, Int.reduceLE, Int.reduceLT, SS, one_ne2, TIS, MDS, wanted, numbered, plainC, plainS, evEq, eqK, evBox, evAlloc, evStore, evLoad, evFieldAddr, behind, takeVal, AV.cells, AV.isCell, ofCells, ofCell, Value.cells, Nat.reduceAdd, Nat.reduceEqDiff, Nat.reduceLT, Nat.reduceLeDiff, Nat.reduceMul, Nat.reduceSub, reduceIte]
          | false => simp -implicitDefEqProofs only [QS, QN, Go.Proofs.Try.f81, enc_Cond, enc_Fact, enc_Request, c1, ifEv_bool, gate_bool, pick_bool, Bool.true_eq_false, if_false, if_true, e2, e3, e4, e5, SN, evCutRow, Int.reduceToNat, id_eq, Int.reduceBEq, Int.reduceLE, Int.reduceLT, SS, one_ne2, TIS, MDS, wanted, numbered, plainC, plainS, evEq, eqK, evBox, evAlloc, evStore, evLoad, evFieldAddr, behind, takeVal, AV.cells, AV.isCell, ofCells, ofCell, Value.cells, Nat.reduceAdd, Nat.reduceEqDiff, Nat.reduceLT, Nat.reduceLeDiff, Nat.reduceMul, Nat.reduceSub, reduceIte]
theorem r_impl_concerns {fl f2 f3 : Bool} (k : Nat) (hk : 281474976710656 + 8 ≤ k) (x : Cond) (f : Fact) (q : Request) :
    run E noExt k 86 [x.enc fl, f.enc f2, q.enc f3] [] = some (.bool (touches x f q), []) := by
  have c1 := r_impl_HoldsAt (fl := f2) (k - 1) (by omega) f q.now x.b
  obtain ⟨k, rfl⟩ : ∃ j, k = j + 1 := ⟨k - 1, by omega⟩
  rw [run_succ rfl rfl, body_eq (nt := 71) (fn := Go.Proofs.Try.f86) (by kernel_rfl) rfl rfl rfl rfl rfl rfl rfl rfl]
  simp -implicitDefEqProofs only [Nat.add_sub_cancel, enc_Fact] at c1
  unfold touches
  cases hh : holdsAt f q.now x.b with
  | false =>
    rw [hh] at c1
    simp -implicitDefEqProofs only [QS, QN, Go.Proofs.Try.f86, enc_Cond, enc_Fact, enc_Request, c1, ifEv_bool, if_true, SN, evCutRow, Int.reduceToNat, id_eq, Int.reduceBEq, Int.reduceLE, Int.reduceLT, SS, one_ne2, TIS, MDS, wanted, numbered, plainC, plainS, evEq, eqK, evBox, evAlloc, evStore, evLoad, evFieldAddr, behind, takeVal, AV.cells, AV.isCell, ofCells, ofCell, Value.cells, Nat.reduceAdd, Nat.reduceEqDiff, Nat.reduceLT, Nat.reduceLeDiff, Nat.reduceMul, Nat.reduceSub, reduceIte]
  | true =>
    rw [hh] at c1
    cases e2 : (x.op == 2) with
    | true => cases g1 : (f.kind == 1) <;> cases g2 : (f.subject == q.person) <;> simp -implicitDefEqProofs only [QS, QN, Go.Proofs.Try.f86, enc_Cond, enc_Fact, enc_Request, c1, ifEv_bool, gate_bool, pick_bool, Bool.true_eq_false, if_false, if_true, e2, g1, g2, SN, evCutRow, Int.reduceToNat, id_eq, Int.reduceBEq, Int.reduceLE, Int.reduceLT, SS, one_ne2, TIS, MDS, wanted, numbered, plainC, plainS, evEq, eqK, evBox, evAlloc, evStore, evLoad, evFieldAddr, behind, takeVal, AV.cells, AV.isCell, ofCells, ofCell, Value.cells, Nat.reduceAdd, Nat.reduceEqDiff, Nat.reduceLT, Nat.reduceLeDiff, Nat.reduceMul, Nat.reduceSub, reduceIte]
    | false =>
      cases e3 : (x.op == 3) with
      | true => cases g1 : (f.kind == 2) <;> cases g2 : (f.subject == q.person) <;> cases g3 : (f.value == q.device) <;> simp -implicitDefEqProofs only [QS, QN, Go.Proofs.Try.f86, enc_Cond, enc_Fact, enc_Request, c1, ifEv_bool, gate_bool, pick_bool, Bool.true_eq_false, if_false, if_true, e2, e3, g1, g2, g3, SN, evCutRow, Int.reduceToNat, id_eq, Int.reduceBEq, Int.reduceLE, Int.reduceLT, SS, one_ne2, TIS, MDS, wanted, numbered, plainC, plainS, evEq, eqK, evBox, evAlloc, evStore, evLoad, evFieldAddr, behind, takeVal, AV.cells, AV.isCell, ofCells, ofCell, Value.cells, Nat.reduceAdd, Nat.reduceEqDiff, Nat.reduceLT, Nat.reduceLeDiff, Nat.reduceMul, Nat.reduceSub, reduceIte]
      | false =>
        cases e4 : (x.op == 4) with
        | true => cases g1 : (f.kind == 3) <;> cases g2 : (f.subject == q.device) <;> simp -implicitDefEqProofs only [QS, QN, Go.Proofs.Try.f86, enc_Cond, enc_Fact, enc_Request, c1, ifEv_bool, gate_bool, pick_bool, Bool.true_eq_false, if_false, if_true, e2, e3, e4, g1, g2, SN, evCutRow, Int.reduceToNat, id_eq, Int.reduceBEq, Int.reduceLE, Int.reduceLT, SS, one_ne2, TIS, MDS, wanted, numbered, plainC, plainS, evEq, eqK, evBox, evAlloc, evStore, evLoad, evFieldAddr, behind, takeVal, AV.cells, AV.isCell, ofCells, ofCell, Value.cells, Nat.reduceAdd, Nat.reduceEqDiff, Nat.reduceLT, Nat.reduceLeDiff, Nat.reduceMul, Nat.reduceSub, reduceIte]
        | false =>
          cases e5 : (x.op == 5) with
          | true => cases g1 : (f.kind == 4) <;> cases g2 : (f.subject == q.program) <;> simp -implicitDefEqProofs only [QS, QN, Go.Proofs.Try.f86, enc_Cond, enc_Fact, enc_Request, c1, ifEv_bool, gate_bool, pick_bool, Bool.true_eq_false, if_false, if_true, e2, e3, e4, e5, g1, g2, SN, evCutRow, Int.reduceToNat, id_eq, Int.reduceBEq, Int.reduceLE, Int.reduceLT, SS, one_ne2, TIS, MDS, wanted, numbered, plainC, plainS, evEq, eqK, evBox, evAlloc, evStore, evLoad, evFieldAddr, behind, takeVal, AV.cells, AV.isCell, ofCells, ofCell, Value.cells, Nat.reduceAdd, Nat.reduceEqDiff, Nat.reduceLT, Nat.reduceLeDiff, Nat.reduceMul, Nat.reduceSub, reduceIte]
          | false => simp -implicitDefEqProofs only [QS, QN, Go.Proofs.Try.f86, enc_Cond, enc_Fact, enc_Request, c1, ifEv_bool, gate_bool, pick_bool, Bool.true_eq_false, if_false, if_true, e2, e3, e4, e5, SN, evCutRow, Int.reduceToNat, id_eq, Int.reduceBEq, Int.reduceLE, Int.reduceLT, SS, one_ne2, TIS, MDS, wanted, numbered, plainC, plainS, evEq, eqK, evBox, evAlloc, evStore, evLoad, evFieldAddr, behind, takeVal, AV.cells, AV.isCell, ofCells, ofCell, Value.cells, Nat.reduceAdd, Nat.reduceEqDiff, Nat.reduceLT, Nat.reduceLeDiff, Nat.reduceMul, Nat.reduceSub, reduceIte]
noncomputable def usesAt (x : Cond) (q : Request) (f : Fact) : Bool := (gather x []).any fun c => touches c f q
def uStep (p : Fact → Bool) (i : Nat) (f : Fact) (b : List Int) : Sum (List Int) (List Int) := .inr (if p f = true then b ++ [(i : Int)] else b)
def usedL (p : Fact → Bool) (s : List Fact) : List Int := loopL (uStep p) id 0 s []
theorem uLoop_len (p : Fact → Bool) : ∀ (s : List Fact) (i : Nat) (b : List Int), (loopL (uStep p) id i s b).length ≤ b.length + s.length
  | [], i, b => by simp [loopL]
  | c :: r, i, b => by
    simp -implicitDefEqProofs only [loopL, uStep]
    have := uLoop_len p r (i + 1) (if p c = true then b ++ [(i : Int)] else b)
    simp -implicitDefEqProofs only [List.length_cons]
    split at this
    · rename_i h; simp -implicitDefEqProofs only [h, if_true]; rw [List.length_append] at this; simp -implicitDefEqProofs only [List.length_singleton] at this; omega
    · rename_i h; simp -implicitDefEqProofs only [h, if_false, Bool.false_eq_true] at *; omega
theorem usedL_len (p : Fact → Bool) (s : List Fact) : (usedL p s).length ≤ s.length := by
  have := uLoop_len p s 0 []
  simpa [usedL] using this
theorem r_impl_UsedFacts {fl f2 : Bool} (k : Nat) (l : List Includes) (s : List Fact) (hs1 : s.length ≤ 1099511627776) (x : Cond) (hk : 290271069732864 + 4 * x.w + 40 ≤ k) (hx : x.w ≤ 1099511627776) (q : Request) :
    run E noExt k 34 [.sl fl (l.map (Includes.enc fl)), .sl f2 (s.map (Fact.enc f2)), x.enc true, q.enc true] [] = some (.own 0 false 3 1 ((usedL (usesAt x q) s).map (AV.int .i64)), []) := by
  have hs : s.length ≤ 140737488355328 := by omega
  have hgf := gather_facts x []
  have hgl := hgf.1 leaves_nil
  have hsc := scals_leaves hgl
  have hgn := hgf.2
  simp -implicitDefEqProofs only [List.length_nil] at hgn
  have c1 := r_impl_LeavesOf (fl := true) (k - 1) x (by omega) hx
  have c2 := fun (f : Fact) => r_slices_ContainsFunc_Cond (fl := true) (k - 1) (gather x []) (by omega) (by omega) 85 [.cptr [.int .i64 f.kind, .int .i64 f.subject, .int .i64 f.value, .int .i64 f.issuer, .int .i64 f.at_, .int .i64 f.until_], .cptr [.int .i64 q.person, .int .i64 q.device, .int .i64 q.program, .int .i64 q.action, .int .i64 q.object, .int .i64 q.now]] (plain_of rfl) (fun c => touches c f q) (fun c hc => by
    have c0 := r_impl_concerns (fl := true) (f2 := true) (f3 := true) (k - 4) (by omega) c f q
    rw [show k - 1 - 2 = (k - 4) + 1 by omega]
    rw [run_succ rfl rfl, body_eq (nt := 9) (fn := Go.Proofs.Try.f85) (by kernel_rfl) rfl rfl rfl rfl rfl rfl rfl rfl]
    simp -implicitDefEqProofs only [enc_Cond, enc_Fact, enc_Request] at c0
    simp -implicitDefEqProofs only [QS, QN, enc_Cond, Go.Proofs.Try.f85, c0, SN, evCutRow, Int.reduceToNat, id_eq, Int.reduceBEq, Int.reduceLE, Int.reduceLT, SS, one_ne2, TIS, MDS, wanted, numbered, plainC, plainS, evEq, eqK, evBox, evAlloc, evStore, evLoad, evFieldAddr, behind, takeVal, AV.cells, AV.isCell, ofCells, ofCell, Value.cells, Nat.reduceAdd, Nat.reduceEqDiff, Nat.reduceLT, Nat.reduceLeDiff, Nat.reduceMul, Nat.reduceSub, reduceIte])
  unfold usedL
  obtain ⟨k, rfl⟩ : ∃ j, k = j + 1 := ⟨k - 1, by omega⟩
  rw [run_succ rfl rfl, body_eq (nt := 32) (fn := Go.Proofs.Try.f34) (by kernel_rfl) rfl rfl rfl rfl rfl rfl rfl rfl]
  simp -implicitDefEqProofs only [Nat.add_sub_cancel, enc_Cond] at c1 c2
  simp -implicitDefEqProofs only [QS, QN, QO, Go.Proofs.Try.f34, enc_Cond, enc_Request, c1, hsc, SO, SH, frzO, frzE, AV.laid, AV.treeV, AV.treeC, St.laid, spent, AV.subs, AV.shut, AV.scal, AV.scals, evBuildSlice, elemsOf, zeroOK, evAppend, rowOf, noref, isRef, small, import_, AV.any, AV.anys, isPtr, finV, rename, noPtr, isBad, AV.isUndef, St.setRow, AV.shutV, rebuild, isAggV, evBuild, fillCells, evCutOwn, dedup, nodupB, idx, AV.rows, AV.rowss, AV.mapO, AV.mapOs, SN, evCutRow, Int.reduceToNat, id_eq, Int.reduceBEq, Int.reduceLE, Int.reduceLT, SS, one_ne2, TIS, MDS, wanted, numbered, plainC, plainS, evEq, eqK, evBox, evAlloc, evStore, evLoad, evFieldAddr, behind, takeVal, AV.cells, AV.isCell, ofCells, ofCell, Value.cells, Nat.reduceAdd, Nat.reduceEqDiff, Nat.reduceLT, Nat.reduceLeDiff, Nat.reduceMul, Nat.reduceSub, reduceIte]
  rw [ev_loop]
  refine Eq.trans (loop_list (Q := fun (g : List Int) z => thenEnd E.P _ _ 0 (thenEv E _ _ _ _ _ (outOf 0 z)) = some (.own 0 false 3 1 (g.map (AV.int .i64)), [])) s (uStep (usesAt x q)) id
    (fun i b => { sl := [(7, .ptr 0 0), (9, .own 0 false 3 1 (b.map (AV.int .i64))), (10, .own 1 false 45 4 ((gather x []).map (Cond.enc true))), (16, .sl f2 (s.map (Fact.enc f2))), (17, .int .i64 (s.length : Nat)), (18, .int .i64 (i : Nat))], bx := [(0, [.int .i64 q.person, .int .i64 q.device, .int .i64 q.program, .int .i64 q.action, .int .i64 q.object, .int .i64 q.now])], nx := 3, nt := 32 })
    (fun i b => b.length ≤ i) [] ?_ ?_ (by omega) (by simp) ?_) rfl
  · intro b _
    simp -implicitDefEqProofs only [QS, QN, QG, QO, SO, SH, frzO, frzE, AV.laid, AV.treeV, AV.treeC, St.laid, spent, AV.subs, AV.shut, AV.scal, AV.scals, evBuildSlice, elemsOf, zeroOK, evAppend, rowOf, noref, isRef, small, import_, AV.any, AV.anys, isPtr, finV, rename, noPtr, isBad, AV.isUndef, St.setRow, AV.shutV, rebuild, isAggV, evBuild, fillCells, evCutOwn, dedup, nodupB, idx, AV.rows, AV.rowss, AV.mapO, AV.mapOs, firstRegion, gc, keptBoxes, keptRows, renameB, AV.boxes, AV.boxess, leaf_some, isNormal, ifEv_bool, gate_bool, gateP_bool, gateQ_bool, pick_bool, SN, evCutRow, Int.reduceToNat, id_eq, Int.reduceBEq, Int.reduceLE, Int.reduceLT, SS, one_ne2, TIS, MDS, wanted, numbered, plainC, plainS, evEq, eqK, evBox, evAlloc, evStore, evLoad, evFieldAddr, behind, takeVal, AV.cells, AV.isCell, ofCells, ofCell, Value.cells, Nat.reduceAdd, Nat.reduceEqDiff, Nat.reduceLT, Nat.reduceLeDiff, Nat.reduceMul, Nat.reduceSub, reduceIte]
    repeat' (split <;> (rename_i h; (try simp -implicitDefEqProofs only [Bool.not_eq_true', Bool.not_eq_false', decide_eq_true_eq, decide_eq_false_iff_not] at h); (try simp -implicitDefEqProofs only [QS, QN, QG, QO, *, SO, SH, frzO, frzE, AV.laid, AV.treeV, AV.treeC, St.laid, spent, AV.subs, AV.shut, AV.scal, AV.scals, evBuildSlice, elemsOf, zeroOK, evAppend, rowOf, noref, isRef, small, import_, AV.any, AV.anys, isPtr, finV, rename, noPtr, isBad, AV.isUndef, St.setRow, AV.shutV, rebuild, isAggV, evBuild, fillCells, evCutOwn, dedup, nodupB, idx, AV.rows, AV.rowss, AV.mapO, AV.mapOs, firstRegion, gc, keptBoxes, keptRows, renameB, AV.boxes, AV.boxess, leaf_some, isNormal, ifEv_bool, gate_bool, gateP_bool, gateQ_bool, pick_bool, SN, evCutRow, Int.reduceToNat, id_eq, Int.reduceBEq, Int.reduceLE, Int.reduceLT, SS, one_ne2, TIS, MDS, wanted, numbered, plainC, plainS, evEq, eqK, evBox, evAlloc, evStore, evLoad, evFieldAddr, behind, takeVal, AV.cells, AV.isCell, ofCells, ofCell, Value.cells, Nat.reduceAdd, Nat.reduceEqDiff, Nat.reduceLT, Nat.reduceLeDiff, Nat.reduceMul, Nat.reduceSub, reduceIte])))
  · intro pre f r b hs' hb
    have hx := (at_row hs' hs).1; have hc := (at_row hs' hs).2.1; have hlt := (at_row hs' hs).2.2.1; have hw1 := (at_row hs' hs).2.2.2.1; have hl9 := (at_row hs' hs).2.2.2.2
    clear hs'
    have c3 := c2 f
    have hst : uStep (usesAt x q) pre.length f b = .inr (if (usesAt x q f) = true then b ++ [(pre.length : Int)] else b) := rfl
    rw [show usesAt x q f = (gather x []).any (fun c => touches c f q) from rfl] at hst
    have hm1 : (b.length + 1) * 8 ≤ 140737488355328 := by omega
    have hm2 : b.length + 1 ≤ 9223372036854775807 := by omega
    have hm9 : b.length ≤ 9223372036854775806 := by omega
    have hm3 : b.length ≤ pre.length + 1 := by omega
    have hm4 : (b ++ [(pre.length : Int)]).length ≤ pre.length + 1 := by rw [List.length_append]; exact Nat.succ_le_succ hb
    have hpl : plains [AV.int IntKind.i64 (pre.length : Int)] = true := rfl
    clear c1 c2
    generalize (gather x []).any (fun c => touches c f q) = e at *
    cases e <;> simp -implicitDefEqProofs only [Bool.false_eq_true, if_false, if_true] at hst
    all_goals
      simp -implicitDefEqProofs only [QS, QN, QG, QO, enc_Fact, hx, hlt, hw1, c3, hst, hm1, hm2, hm3, hm4, hpl, hsc, List.map_append, SO, SH, frzO, frzE, AV.laid, AV.treeV, AV.treeC, St.laid, spent, AV.subs, AV.shut, AV.scal, AV.scals, evBuildSlice, elemsOf, zeroOK, evAppend, rowOf, noref, isRef, small, import_, AV.any, AV.anys, isPtr, finV, rename, noPtr, isBad, AV.isUndef, St.setRow, AV.shutV, rebuild, isAggV, evBuild, fillCells, evCutOwn, dedup, nodupB, idx, AV.rows, AV.rowss, AV.mapO, AV.mapOs, firstRegion, gc, keptBoxes, keptRows, renameB, AV.boxes, AV.boxess, keep_34_3, leaf_some, isNormal, ifEv_bool, gate_bool, gateP_bool, gateQ_bool, pick_bool, SN, evCutRow, Int.reduceToNat, id_eq, Int.reduceBEq, Int.reduceLE, Int.reduceLT, SS, one_ne2, TIS, MDS, wanted, numbered, plainC, plainS, evEq, eqK, evBox, evAlloc, evStore, evLoad, evFieldAddr, behind, takeVal, AV.cells, AV.isCell, ofCells, ofCell, Value.cells, Nat.reduceAdd, Nat.reduceEqDiff, Nat.reduceLT, Nat.reduceLeDiff, Nat.reduceMul, Nat.reduceSub, reduceIte]
      repeat' (split <;> (rename_i h; (try simp -implicitDefEqProofs only [Bool.not_eq_true', Bool.not_eq_false', decide_eq_true_eq, decide_eq_false_iff_not] at h); (try simp -implicitDefEqProofs only [QS, QN, QG, QO, *, enc_Fact, hx, hlt, hw1, c3, hst, hm1, hm2, hm3, hm4, hpl, hsc, List.map_append, SO, SH, frzO, frzE, AV.laid, AV.treeV, AV.treeC, St.laid, spent, AV.subs, AV.shut, AV.scal, AV.scals, evBuildSlice, elemsOf, zeroOK, evAppend, rowOf, noref, isRef, small, import_, AV.any, AV.anys, isPtr, finV, rename, noPtr, isBad, AV.isUndef, St.setRow, AV.shutV, rebuild, isAggV, evBuild, fillCells, evCutOwn, dedup, nodupB, idx, AV.rows, AV.rowss, AV.mapO, AV.mapOs, firstRegion, gc, keptBoxes, keptRows, renameB, AV.boxes, AV.boxess, keep_34_3, leaf_some, isNormal, ifEv_bool, gate_bool, gateP_bool, gateQ_bool, pick_bool, SN, evCutRow, Int.reduceToNat, id_eq, Int.reduceBEq, Int.reduceLE, Int.reduceLT, SS, one_ne2, TIS, MDS, wanted, numbered, plainC, plainS, evEq, eqK, evBox, evAlloc, evStore, evLoad, evFieldAddr, behind, takeVal, AV.cells, AV.isCell, ofCells, ofCell, Value.cells, Nat.reduceAdd, Nat.reduceEqDiff, Nat.reduceLT, Nat.reduceLeDiff, Nat.reduceMul, Nat.reduceSub, reduceIte])))
  · simp -implicitDefEqProofs only [firstRegion]
    rw [keep_34_3]
    simp -implicitDefEqProofs only [QS, QN, QG, QO, SN, evCutRow, Int.reduceToNat, id_eq, Int.reduceBEq, Int.reduceLE, Int.reduceLT, SO, SH, frzO, frzE, AV.laid, AV.treeV, AV.treeC, St.laid, spent, AV.subs, AV.shut, AV.scal, AV.scals, evBuildSlice, elemsOf, zeroOK, evAppend, rowOf, noref, isRef, small, import_, AV.any, AV.anys, isPtr, finV, rename, noPtr, isBad, AV.isUndef, St.setRow, AV.shutV, rebuild, isAggV, evBuild, fillCells, evCutOwn, dedup, nodupB, idx, AV.rows, AV.rowss, AV.mapO, AV.mapOs, firstRegion, gc, keptBoxes, keptRows, renameB, AV.boxes, AV.boxess, SS, one_ne2, TIS, MDS, wanted, numbered, plainC, plainS, evEq, eqK, evBox, evAlloc, evStore, evLoad, evFieldAddr, behind, takeVal, AV.cells, AV.isCell, ofCells, ofCell, Value.cells, Nat.reduceAdd, Nat.reduceEqDiff, Nat.reduceLT, Nat.reduceLeDiff, Nat.reduceMul, Nat.reduceSub, reduceIte]
def orStep (p : Cond → Bool) (_ : Nat) (c : Cond) (b : Bool) : Sum Bool Bool := .inr (b || p c)
theorem orLoop (p : Cond → Bool) : ∀ (s : List Cond) (i : Nat) (b : Bool), loopL (orStep p) id i s b = (b || s.any p)
  | [], i, b => by simp [loopL]
  | c :: r, i, b => by
    simp -implicitDefEqProofs only [loopL, orStep, List.any_cons]
    rw [orLoop p r, Bool.or_assoc]
theorem r_spec_UsedFacts {fl f2 : Bool} (k : Nat) (l : List Includes) (s : List Fact) (hs1 : s.length ≤ 1099511627776) (x : Cond) (hk : 290271069732864 + 4 * x.w + 40 ≤ k) (hx : x.w ≤ 1099511627776) (q : Request) :
    run E noExt k 30 [.sl fl (l.map (Includes.enc fl)), .sl f2 (s.map (Fact.enc f2)), x.enc true, q.enc true] [] = some (.own 0 false 3 1 ((usedL (usesAt x q) s).map (AV.int .i64)), []) := by
  have hs : s.length ≤ 140737488355328 := by omega
  have hgf := gather_facts x []
  have hgl := hgf.1 leaves_nil
  have hsc := scals_leaves hgl
  have hgn := hgf.2
  simp -implicitDefEqProofs only [List.length_nil] at hgn
  have hgs : (gather x []).length ≤ 140737488355328 := by omega
  have c1 := r_spec_LeavesOf (fl := true) (k - 1) x (by omega) hx
  have c2 := fun (c : Cond) (f : Fact) => r_spec_l18Touches (fl := true) (f2 := f2) (f3 := true) (k - 1) (by omega) c f q
  unfold usedL
  obtain ⟨k, rfl⟩ : ∃ j, k = j + 1 := ⟨k - 1, by omega⟩
  rw [run_succ rfl rfl, body_eq (nt := 48) (fn := Go.Proofs.Try.f30) (by kernel_rfl) rfl rfl rfl rfl rfl rfl rfl rfl]
  simp -implicitDefEqProofs only [Nat.add_sub_cancel, enc_Cond, enc_Fact, enc_Request] at c1 c2
  simp -implicitDefEqProofs only [QS, QN, QO, Go.Proofs.Try.f30, enc_Cond, enc_Request, c1, hsc, SO, SH, frzO, frzE, AV.laid, AV.treeV, AV.treeC, St.laid, spent, AV.subs, AV.shut, AV.scal, AV.scals, evBuildSlice, elemsOf, zeroOK, evAppend, rowOf, noref, isRef, small, import_, AV.any, AV.anys, isPtr, finV, rename, noPtr, isBad, AV.isUndef, St.setRow, AV.shutV, rebuild, isAggV, evBuild, fillCells, evCutOwn, dedup, nodupB, idx, AV.rows, AV.rowss, AV.mapO, AV.mapOs, SN, evCutRow, Int.reduceToNat, id_eq, Int.reduceBEq, Int.reduceLE, Int.reduceLT, SS, one_ne2, TIS, MDS, wanted, numbered, plainC, plainS, evEq, eqK, evBox, evAlloc, evStore, evLoad, evFieldAddr, behind, takeVal, AV.cells, AV.isCell, ofCells, ofCell, Value.cells, Nat.reduceAdd, Nat.reduceEqDiff, Nat.reduceLT, Nat.reduceLeDiff, Nat.reduceMul, Nat.reduceSub, reduceIte]
  rw [ev_loop]
  refine Eq.trans (loop_list (Q := fun (g : List Int) z => thenEnd E.P _ _ 0 (thenEv E _ _ _ _ _ (outOf 0 z)) = some (.own 0 false 3 1 (g.map (AV.int .i64)), [])) s (uStep (usesAt x q)) id
    (fun i b => { sl := [(1, .sl f2 (s.map (Fact.enc f2))), (7, .ptr 0 0), (9, .own 0 false 45 4 ((gather x []).map (Cond.enc true))), (10, .own 1 false 3 1 (b.map (AV.int .i64))), (11, .int .i64 (i : Nat))], bx := [(0, [.int .i64 q.person, .int .i64 q.device, .int .i64 q.program, .int .i64 q.action, .int .i64 q.object, .int .i64 q.now])], nx := 3, nt := 48 })
    (fun i b => b.length ≤ i) [] ?_ ?_ (by omega) (by simp) ?_) rfl
  · intro b _
    simp -implicitDefEqProofs only [QS, QN, QG, QO, SO, SH, frzO, frzE, AV.laid, AV.treeV, AV.treeC, St.laid, spent, AV.subs, AV.shut, AV.scal, AV.scals, evBuildSlice, elemsOf, zeroOK, evAppend, rowOf, noref, isRef, small, import_, AV.any, AV.anys, isPtr, finV, rename, noPtr, isBad, AV.isUndef, St.setRow, AV.shutV, rebuild, isAggV, evBuild, fillCells, evCutOwn, dedup, nodupB, idx, AV.rows, AV.rowss, AV.mapO, AV.mapOs, firstRegion, gc, keptBoxes, keptRows, renameB, AV.boxes, AV.boxess, leaf_some, isNormal, ifEv_bool, gate_bool, gateP_bool, gateQ_bool, pick_bool, SN, evCutRow, Int.reduceToNat, id_eq, Int.reduceBEq, Int.reduceLE, Int.reduceLT, SS, one_ne2, TIS, MDS, wanted, numbered, plainC, plainS, evEq, eqK, evBox, evAlloc, evStore, evLoad, evFieldAddr, behind, takeVal, AV.cells, AV.isCell, ofCells, ofCell, Value.cells, Nat.reduceAdd, Nat.reduceEqDiff, Nat.reduceLT, Nat.reduceLeDiff, Nat.reduceMul, Nat.reduceSub, reduceIte]
    repeat' (split <;> (rename_i h; (try simp -implicitDefEqProofs only [Bool.not_eq_true', Bool.not_eq_false', decide_eq_true_eq, decide_eq_false_iff_not] at h); (try simp -implicitDefEqProofs only [QS, QN, QG, QO, *, SO, SH, frzO, frzE, AV.laid, AV.treeV, AV.treeC, St.laid, spent, AV.subs, AV.shut, AV.scal, AV.scals, evBuildSlice, elemsOf, zeroOK, evAppend, rowOf, noref, isRef, small, import_, AV.any, AV.anys, isPtr, finV, rename, noPtr, isBad, AV.isUndef, St.setRow, AV.shutV, rebuild, isAggV, evBuild, fillCells, evCutOwn, dedup, nodupB, idx, AV.rows, AV.rowss, AV.mapO, AV.mapOs, firstRegion, gc, keptBoxes, keptRows, renameB, AV.boxes, AV.boxess, leaf_some, isNormal, ifEv_bool, gate_bool, gateP_bool, gateQ_bool, pick_bool, SN, evCutRow, Int.reduceToNat, id_eq, Int.reduceBEq, Int.reduceLE, Int.reduceLT, SS, one_ne2, TIS, MDS, wanted, numbered, plainC, plainS, evEq, eqK, evBox, evAlloc, evStore, evLoad, evFieldAddr, behind, takeVal, AV.cells, AV.isCell, ofCells, ofCell, Value.cells, Nat.reduceAdd, Nat.reduceEqDiff, Nat.reduceLT, Nat.reduceLeDiff, Nat.reduceMul, Nat.reduceSub, reduceIte])))
  · intro pre f r b hs' hb
    have hx := (at_row hs' hs).1; have hc := (at_row hs' hs).2.1; have hlt := (at_row hs' hs).2.2.1; have hw1 := (at_row hs' hs).2.2.2.1; have hl9 := (at_row hs' hs).2.2.2.2
    clear hs'
    have hw0 := hw1
    have hst : uStep (usesAt x q) pre.length f b = .inr (if (usesAt x q f) = true then b ++ [(pre.length : Int)] else b) := rfl
    rw [show usesAt x q f = (gather x []).any (fun c => touches c f q) from rfl] at hst
    have hm1 : (b.length + 1) * 8 ≤ 140737488355328 := by omega
    have hm2 : b.length + 1 ≤ 9223372036854775807 := by omega
    have hm9 : b.length ≤ 9223372036854775806 := by omega
    have hm3 : b.length ≤ pre.length + 1 := by omega
    have hm4 : (b ++ [(pre.length : Int)]).length ≤ pre.length + 1 := by rw [List.length_append]; exact Nat.succ_le_succ hb
    have hpl : plains [AV.int IntKind.i64 (pre.length : Int)] = true := rfl
    have c3 := fun c => c2 c f
    have hL : loopL (orStep fun c => touches c f q) id 0 (gather x []) false = (gather x []).any fun c => touches c f q := by rw [orLoop, Bool.false_or]
    clear c1 c2
    simp -implicitDefEqProofs only [QS, QN, QO, hlt, leaf_some, isNormal, ifEv_bool, SO, SH, frzO, frzE, AV.laid, AV.treeV, AV.treeC, St.laid, spent, AV.subs, AV.shut, AV.scal, AV.scals, evBuildSlice, elemsOf, zeroOK, evAppend, rowOf, noref, isRef, small, import_, AV.any, AV.anys, isPtr, finV, rename, noPtr, isBad, AV.isUndef, St.setRow, AV.shutV, rebuild, isAggV, evBuild, fillCells, evCutOwn, dedup, nodupB, idx, AV.rows, AV.rowss, AV.mapO, AV.mapOs, SN, evCutRow, Int.reduceToNat, id_eq, Int.reduceBEq, Int.reduceLE, Int.reduceLT, SS, one_ne2, TIS, MDS, wanted, numbered, plainC, plainS, evEq, eqK, evBox, evAlloc, evStore, evLoad, evFieldAddr, behind, takeVal, AV.cells, AV.isCell, ofCells, ofCell, Value.cells, Nat.reduceAdd, Nat.reduceEqDiff, Nat.reduceLT, Nat.reduceLeDiff, Nat.reduceMul, Nat.reduceSub, reduceIte]
    rw [ev_loop]
    refine loop_list (Q := fun g z => g = (gather x []).any (fun c => touches c f q) → Leaf (thenEv E _ _ _ _ _ (outOf 1 (thenEv E _ _ _ _ _ (outOf 2 z)))) _) (gather x []) (orStep fun c => touches c f q) id
      (fun j g => { sl := [(1, .sl f2 (s.map (Fact.enc f2))), (7, .ptr 0 0), (9, .own 0 false 45 4 ((gather x []).map (Cond.enc true))), (10, .own 1 false 3 1 (b.map (AV.int .i64))), (11, .int .i64 (pre.length : Nat)), (12, .bool g), (13, .int .i64 (j : Nat))], bx := [(0, [.int .i64 q.person, .int .i64 q.device, .int .i64 q.program, .int .i64 q.action, .int .i64 q.object, .int .i64 q.now])], nx := 3, nt := 48 })
      (fun _ _ => True) false ?_ ?_ ?_ trivial ?_ hL
    · intro g _
      simp -implicitDefEqProofs only [QS, QN, QO, leaf_some, isNormal, ifEv_bool, SO, SH, frzO, frzE, AV.laid, AV.treeV, AV.treeC, St.laid, spent, AV.subs, AV.shut, AV.scal, AV.scals, evBuildSlice, elemsOf, zeroOK, evAppend, rowOf, noref, isRef, small, import_, AV.any, AV.anys, isPtr, finV, rename, noPtr, isBad, AV.isUndef, St.setRow, AV.shutV, rebuild, isAggV, evBuild, fillCells, evCutOwn, dedup, nodupB, idx, AV.rows, AV.rowss, AV.mapO, AV.mapOs, SN, evCutRow, Int.reduceToNat, id_eq, Int.reduceBEq, Int.reduceLE, Int.reduceLT, SS, one_ne2, TIS, MDS, wanted, numbered, plainC, plainS, evEq, eqK, evBox, evAlloc, evStore, evLoad, evFieldAddr, behind, takeVal, AV.cells, AV.isCell, ofCells, ofCell, Value.cells, Nat.reduceAdd, Nat.reduceEqDiff, Nat.reduceLT, Nat.reduceLeDiff, Nat.reduceMul, Nat.reduceSub, reduceIte]
      intro he
      generalize (gather x []).any (fun c => touches c f q) = e at *
      subst he
      cases g <;> simp -implicitDefEqProofs only [Bool.false_eq_true, if_false, if_true] at hst
      all_goals
        simp -implicitDefEqProofs only [QS, QN, QG, QO, hw0, hst, hm1, hm2, hm9, hm3, hm4, hpl, hsc, List.map_append, SO, SH, frzO, frzE, AV.laid, AV.treeV, AV.treeC, St.laid, spent, AV.subs, AV.shut, AV.scal, AV.scals, evBuildSlice, elemsOf, zeroOK, evAppend, rowOf, noref, isRef, small, import_, AV.any, AV.anys, isPtr, finV, rename, noPtr, isBad, AV.isUndef, St.setRow, AV.shutV, rebuild, isAggV, evBuild, fillCells, evCutOwn, dedup, nodupB, idx, AV.rows, AV.rowss, AV.mapO, AV.mapOs, firstRegion, gc, keptBoxes, keptRows, renameB, AV.boxes, AV.boxess, keep_30_4, leaf_some, isNormal, ifEv_bool, gate_bool, gateP_bool, gateQ_bool, pick_bool, SN, evCutRow, Int.reduceToNat, id_eq, Int.reduceBEq, Int.reduceLE, Int.reduceLT, SS, one_ne2, TIS, MDS, wanted, numbered, plainC, plainS, evEq, eqK, evBox, evAlloc, evStore, evLoad, evFieldAddr, behind, takeVal, AV.cells, AV.isCell, ofCells, ofCell, Value.cells, Nat.reduceAdd, Nat.reduceEqDiff, Nat.reduceLT, Nat.reduceLeDiff, Nat.reduceMul, Nat.reduceSub, reduceIte]
        repeat' (split <;> (rename_i h; (try simp -implicitDefEqProofs only [Bool.not_eq_true', Bool.not_eq_false', decide_eq_true_eq, decide_eq_false_iff_not] at h); (try simp -implicitDefEqProofs only [QS, QN, QG, QO, *, hw0, hst, hm1, hm2, hm9, hm3, hm4, hpl, hsc, List.map_append, SO, SH, frzO, frzE, AV.laid, AV.treeV, AV.treeC, St.laid, spent, AV.subs, AV.shut, AV.scal, AV.scals, evBuildSlice, elemsOf, zeroOK, evAppend, rowOf, noref, isRef, small, import_, AV.any, AV.anys, isPtr, finV, rename, noPtr, isBad, AV.isUndef, St.setRow, AV.shutV, rebuild, isAggV, evBuild, fillCells, evCutOwn, dedup, nodupB, idx, AV.rows, AV.rowss, AV.mapO, AV.mapOs, firstRegion, gc, keptBoxes, keptRows, renameB, AV.boxes, AV.boxess, keep_30_4, leaf_some, isNormal, ifEv_bool, gate_bool, gateP_bool, gateQ_bool, pick_bool, SN, evCutRow, Int.reduceToNat, id_eq, Int.reduceBEq, Int.reduceLE, Int.reduceLT, SS, one_ne2, TIS, MDS, wanted, numbered, plainC, plainS, evEq, eqK, evBox, evAlloc, evStore, evLoad, evFieldAddr, behind, takeVal, AV.cells, AV.isCell, ofCells, ofCell, Value.cells, Nat.reduceAdd, Nat.reduceEqDiff, Nat.reduceLT, Nat.reduceLeDiff, Nat.reduceMul, Nat.reduceSub, reduceIte])))
    · intro pre2 c r2 g hs2 _
      have hxf := hx
      have hltf := hlt
      have hw1f := hw1
      have hx := (at_row hs2 hgs).1; have hc := (at_row hs2 hgs).2.1; have hlt := (at_row hs2 hgs).2.2.1; have hw1 := (at_row hs2 hgs).2.2.2.1; have hl9 := (at_row hs2 hgs).2.2.2.2
      clear hs2
      have c4 := c3 c
      have hst2 : orStep (fun c => touches c f q) pre2.length c g = .inr (g || touches c f q) := rfl
      generalize touches c f q = tc at *
      cases g <;> cases tc <;> simp -implicitDefEqProofs only [Bool.or_self, Bool.true_or, Bool.or_true, Bool.false_or, Bool.or_false] at hst2
      all_goals
        simp -implicitDefEqProofs only [QS, QN, QG, QO, enc_Cond, enc_Fact, hxf, hltf, hx, hlt, hw1, c4, hst2, plan_30_10, SO, SH, frzO, frzE, AV.laid, AV.treeV, AV.treeC, St.laid, spent, AV.subs, AV.shut, AV.scal, AV.scals, evBuildSlice, elemsOf, zeroOK, evAppend, rowOf, noref, isRef, small, import_, AV.any, AV.anys, isPtr, finV, rename, noPtr, isBad, AV.isUndef, St.setRow, AV.shutV, rebuild, isAggV, evBuild, fillCells, evCutOwn, dedup, nodupB, idx, AV.rows, AV.rowss, AV.mapO, AV.mapOs, firstRegion, gc, keptBoxes, keptRows, renameB, AV.boxes, AV.boxess, keep_30_8, leaf_some, isNormal, ifEv_bool, gate_bool, gateP_bool, gateQ_bool, pick_bool, SN, evCutRow, Int.reduceToNat, id_eq, Int.reduceBEq, Int.reduceLE, Int.reduceLT, SS, one_ne2, TIS, MDS, wanted, numbered, plainC, plainS, evEq, eqK, evBox, evAlloc, evStore, evLoad, evFieldAddr, behind, takeVal, AV.cells, AV.isCell, ofCells, ofCell, Value.cells, Nat.reduceAdd, Nat.reduceEqDiff, Nat.reduceLT, Nat.reduceLeDiff, Nat.reduceMul, Nat.reduceSub, reduceIte]
        repeat' (split <;> (rename_i h; (try simp -implicitDefEqProofs only [Bool.not_eq_true', Bool.not_eq_false', decide_eq_true_eq, decide_eq_false_iff_not] at h); (try simp -implicitDefEqProofs only [QS, QN, QG, QO, *, enc_Cond, enc_Fact, hxf, hltf, hx, hlt, hw1, c4, hst2, plan_30_10, SO, SH, frzO, frzE, AV.laid, AV.treeV, AV.treeC, St.laid, spent, AV.subs, AV.shut, AV.scal, AV.scals, evBuildSlice, elemsOf, zeroOK, evAppend, rowOf, noref, isRef, small, import_, AV.any, AV.anys, isPtr, finV, rename, noPtr, isBad, AV.isUndef, St.setRow, AV.shutV, rebuild, isAggV, evBuild, fillCells, evCutOwn, dedup, nodupB, idx, AV.rows, AV.rowss, AV.mapO, AV.mapOs, firstRegion, gc, keptBoxes, keptRows, renameB, AV.boxes, AV.boxess, keep_30_8, leaf_some, isNormal, ifEv_bool, gate_bool, gateP_bool, gateQ_bool, pick_bool, SN, evCutRow, Int.reduceToNat, id_eq, Int.reduceBEq, Int.reduceLE, Int.reduceLT, SS, one_ne2, TIS, MDS, wanted, numbered, plainC, plainS, evEq, eqK, evBox, evAlloc, evStore, evLoad, evFieldAddr, behind, takeVal, AV.cells, AV.isCell, ofCells, ofCell, Value.cells, Nat.reduceAdd, Nat.reduceEqDiff, Nat.reduceLT, Nat.reduceLeDiff, Nat.reduceMul, Nat.reduceSub, reduceIte])))
    · omega
    · simp -implicitDefEqProofs only [firstRegion]
      rw [keep_30_8]
      simp -implicitDefEqProofs only [QS, QN, QG, QO, SN, evCutRow, Int.reduceToNat, id_eq, Int.reduceBEq, Int.reduceLE, Int.reduceLT, SO, SH, frzO, frzE, AV.laid, AV.treeV, AV.treeC, St.laid, spent, AV.subs, AV.shut, AV.scal, AV.scals, evBuildSlice, elemsOf, zeroOK, evAppend, rowOf, noref, isRef, small, import_, AV.any, AV.anys, isPtr, finV, rename, noPtr, isBad, AV.isUndef, St.setRow, AV.shutV, rebuild, isAggV, evBuild, fillCells, evCutOwn, dedup, nodupB, idx, AV.rows, AV.rowss, AV.mapO, AV.mapOs, firstRegion, gc, keptBoxes, keptRows, renameB, AV.boxes, AV.boxess, SS, one_ne2, TIS, MDS, wanted, numbered, plainC, plainS, evEq, eqK, evBox, evAlloc, evStore, evLoad, evFieldAddr, behind, takeVal, AV.cells, AV.isCell, ofCells, ofCell, Value.cells, Nat.reduceAdd, Nat.reduceEqDiff, Nat.reduceLT, Nat.reduceLeDiff, Nat.reduceMul, Nat.reduceSub, reduceIte]
  · simp -implicitDefEqProofs only [firstRegion]
    rw [keep_30_4]
    simp -implicitDefEqProofs only [QS, QN, QG, QO, SN, evCutRow, Int.reduceToNat, id_eq, Int.reduceBEq, Int.reduceLE, Int.reduceLT, SO, SH, frzO, frzE, AV.laid, AV.treeV, AV.treeC, St.laid, spent, AV.subs, AV.shut, AV.scal, AV.scals, evBuildSlice, elemsOf, zeroOK, evAppend, rowOf, noref, isRef, small, import_, AV.any, AV.anys, isPtr, finV, rename, noPtr, isBad, AV.isUndef, St.setRow, AV.shutV, rebuild, isAggV, evBuild, fillCells, evCutOwn, dedup, nodupB, idx, AV.rows, AV.rowss, AV.mapO, AV.mapOs, firstRegion, gc, keptBoxes, keptRows, renameB, AV.boxes, AV.boxess, SS, one_ne2, TIS, MDS, wanted, numbered, plainC, plainS, evEq, eqK, evBox, evAlloc, evStore, evLoad, evFieldAddr, behind, takeVal, AV.cells, AV.isCell, ofCells, ofCell, Value.cells, Nat.reduceAdd, Nat.reduceEqDiff, Nat.reduceLT, Nat.reduceLeDiff, Nat.reduceMul, Nat.reduceSub, reduceIte]
end Go.Proofs.Ytbajieiodabdgaa.Flat
