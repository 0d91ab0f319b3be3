/-
A leaf of a condition, and a condition, at a moment.
-/
import Derived.Test.YtigfcbcnfppmcaaGreatEqW
import Derived.Test.YtigfcbcnfppmcaaGreatEqK
set_option linter.unusedVariables false
set_option linter.unusedSimpArgs false
set_option maxRecDepth 10000
namespace Go.Proofs.YtigfcbcnfppmcaaGreat.Flat
noncomputable def hasRole (l : List Includes) (s : List Fact) (person role now age : Int) : Bool := (rolesOf l s person now age).any fun c => c == role
theorem rolesOf_len (l : List Includes) (s : List Fact) (person now age : Int) : (rolesOf l s person now age).length ≤ 6 := under_len _ 6
theorem any_swap (s : List Int) (x : Int) : (s.any fun y => decide (x = y)) = s.any fun c => c == x := by
  congr 1
  funext y
  rw [Bool.eq_iff_iff, decide_eq_true_iff, beq_iff_eq]
  exact eq_comm
theorem r_impl_HasRole {fl f2 : Bool} (k : Nat) (hk : 281474976710656 + 9 ≤ k) (l : List Includes) (hl : l.length ≤ 140737488355328) (s : List Fact) (hs : s.length ≤ 1099511627776) (person role now age : Int) :
    run E noExt k 77 [.sl fl (l.map (Includes.enc fl)), .sl f2 (s.map (Fact.enc f2)), .int .i64 person, .int .i64 role, .int .i64 now, .int .i64 age] [] = some (.bool (hasRole l s person role now age), []) := by
  have c1 := r_impl_RolesOf (fl := fl) (f2 := f2) (k - 1) (by omega) l hl s hs person now age
  have c2 := r_slices_Contains_Int (fl := true) (gl := true) (k - 1) (by omega) (rolesOf l s person now age) (by have := rolesOf_len l s person now age; omega) role
  rw [any_swap] at c2
  obtain ⟨k, rfl⟩ : ∃ j, k = j + 1 := ⟨k - 1, by omega⟩
  rw [run_succ rfl rfl, body_eq (nt := 21) (fn := Go.Proofs.Tryz.f77) (by kernel_rfl) rfl rfl rfl rfl rfl rfl rfl rfl]
  simp -implicitDefEqProofs only [Nat.add_sub_cancel] at c1 c2
  simp -implicitDefEqProofs only [QS, QN, QG, QO, Go.Proofs.Tryz.f77, c1, c2, scals_ints, plains_ints, ifEv_bool, SN, evCutRow, Int.reduceToNat, id_eq, Int.reduceBEq, Int.reduceLE, Int.reduceLT, SO, SH, frzO, frzE, AV.laid, AV.treeV, AV.treeC, St.laid, spent, AV.subs, AV.shut, AV.scal, AV.scals, evBuildSlice, elemsOf, zeroOK, evAppend, rowOf, noref, isRef, small, import_, AV.any, AV.anys, isPtr, finV, rename, noPtr, isBad, AV.isUndef, St.setRow, AV.shutV, rebuild, isAggV, evBuild, fillCells, evCutOwn, dedup, nodupB, idx, AV.rows, AV.rowss, AV.mapO, AV.mapOs, firstRegion, gc, keptBoxes, keptRows, renameB, AV.boxes, AV.boxess, SS, one_ne2, num_ne2, TIS, MDS, wanted, numbered, plainC, plainS, evEq, eqK, evBox, evAlloc, evStore, evLoad, evFieldAddr, behind, takeVal, AV.cells, AV.isCell, ofCells, ofCell, Value.cells, Nat.reduceAdd, Nat.reduceEqDiff, Nat.reduceLT, Nat.reduceLeDiff, Nat.reduceMul, Nat.reduceSub, reduceIte]
  rfl
noncomputable def leafAt (l : List Includes) (s : List Fact) (q : Request) (x : Cond) : Bool :=
  if (x.op == 1) = true then true else if (x.op == 2) = true then hasRole l s q.person x.a q.now x.b else
  if (x.op == 3) = true then decide (0 ≤ findFact s 2 q.person q.device q.now x.b) else
  if (x.op == 4) = true then decide (x.a ≤ bestValue s 3 q.device q.now x.b) else
  if (x.op == 5) = true then decide (x.a ≤ bestValue s 4 q.program q.now x.b) else
  if (x.op == 6) = true then decide (q.now ≤ x.a) else false
theorem indexBy_none {α : Type} (p : α → Bool) : ∀ (s : List α) (i : Nat), indexBy p i s = -1 ∨ 0 ≤ indexBy p i s
  | [], i => .inl rfl
  | x :: r, i => by
    unfold indexBy
    split
    · right; omega
    · exact indexBy_none p r (i + 1)
theorem find_ne (s : List Fact) (a b c d e : Int) : (findFact s a b c d e != -1) = decide (0 ≤ findFact s a b c d e) := by
  unfold findFact
  rcases indexBy_none (factIs a b c d e) s 0 with h | h
  · rw [h]; rfl
  · rw [Bool.eq_iff_iff]; simp; omega
theorem r_impl_LeafHolds {fl f2 f3 f4 : Bool} (k : Nat) (hk : 281474976710656 + 11 ≤ k) (l : List Includes) (hl : l.length ≤ 140737488355328) (s : List Fact) (hs : s.length ≤ 1099511627776) (x : Cond) (q : Request) :
    run E noExt k 35 [.sl fl (l.map (Includes.enc fl)), .sl f2 (s.map (Fact.enc f2)), x.enc f3, q.enc f4] [] = some (.bool (leafAt l s q x), []) := by
  have c1 := r_impl_HasRole (fl := fl) (f2 := f2) (k - 1) (by omega) l hl s hs q.person x.a q.now x.b
  have c2 := r_impl_FindFact (fl := f2) (k - 1) (by omega) s (by omega) 2 q.person q.device q.now x.b
  have c3 := r_impl_BestValue (fl := f2) (k - 1) (by omega) s (by omega) 3 q.device q.now x.b
  have c4 := r_impl_BestValue (fl := f2) (k - 1) (by omega) s (by omega) 4 q.program q.now x.b
  have hne := find_ne s 2 q.person q.device q.now x.b
  generalize hb : decide (0 ≤ findFact s 2 q.person q.device q.now x.b) = b at hne
  obtain ⟨k, rfl⟩ : ∃ j, k = j + 1 := ⟨k - 1, by omega⟩
  rw [run_succ rfl rfl, body_eq (nt := 72) (fn := Go.Proofs.Tryz.f35) (by kernel_rfl) rfl rfl rfl rfl rfl rfl rfl rfl]
  simp -implicitDefEqProofs only [Nat.add_sub_cancel] at c1 c2 c3 c4
  unfold leafAt
  rw [hb]
  cases e1 : (x.op == 1) with
  | true => simp -implicitDefEqProofs only [QS, QN, Go.Proofs.Tryz.f35, enc_Cond, enc_Request, e1, ifEv_bool, reduceIte, SN, evCutRow, Int.reduceToNat, id_eq, Int.reduceBEq, Int.reduceLE, Int.reduceLT, SS, one_ne2, num_ne2, TIS, MDS, wanted, numbered, plainC, plainS, evEq, eqK, evBox, evAlloc, evStore, evLoad, evFieldAddr, behind, takeVal, AV.cells, AV.isCell, ofCells, ofCell, Value.cells, Nat.reduceAdd, Nat.reduceEqDiff, Nat.reduceLT, Nat.reduceLeDiff, Nat.reduceMul, Nat.reduceSub]
  | false =>
    cases e2 : (x.op == 2) with
    | true => simp -implicitDefEqProofs only [QS, QN, Go.Proofs.Tryz.f35, enc_Cond, enc_Request, e1, e2, c1, ifEv_bool, reduceIte, SN, evCutRow, Int.reduceToNat, id_eq, Int.reduceBEq, Int.reduceLE, Int.reduceLT, SS, one_ne2, num_ne2, TIS, MDS, wanted, numbered, plainC, plainS, evEq, eqK, evBox, evAlloc, evStore, evLoad, evFieldAddr, behind, takeVal, AV.cells, AV.isCell, ofCells, ofCell, Value.cells, Nat.reduceAdd, Nat.reduceEqDiff, Nat.reduceLT, Nat.reduceLeDiff, Nat.reduceMul, Nat.reduceSub]
    | false =>
      cases e3 : (x.op == 3) with
      | true => simp -implicitDefEqProofs only [QS, QN, Go.Proofs.Tryz.f35, enc_Cond, enc_Request, e1, e2, e3, c2, hne, ifEv_bool, reduceIte, SN, evCutRow, Int.reduceToNat, id_eq, Int.reduceBEq, Int.reduceLE, Int.reduceLT, SS, one_ne2, num_ne2, TIS, MDS, wanted, numbered, plainC, plainS, evEq, eqK, evBox, evAlloc, evStore, evLoad, evFieldAddr, behind, takeVal, AV.cells, AV.isCell, ofCells, ofCell, Value.cells, Nat.reduceAdd, Nat.reduceEqDiff, Nat.reduceLT, Nat.reduceLeDiff, Nat.reduceMul, Nat.reduceSub]
      | false =>
        cases e4 : (x.op == 4) with
        | true => simp -implicitDefEqProofs only [QS, QN, Go.Proofs.Tryz.f35, enc_Cond, enc_Request, e1, e2, e3, e4, c3, ifEv_bool, GE.ge, reduceIte, plan_35_9, plan_35_11, SN, evCutRow, Int.reduceToNat, id_eq, Int.reduceBEq, Int.reduceLE, Int.reduceLT, SS, one_ne2, num_ne2, TIS, MDS, wanted, numbered, plainC, plainS, evEq, eqK, evBox, evAlloc, evStore, evLoad, evFieldAddr, behind, takeVal, AV.cells, AV.isCell, ofCells, ofCell, Value.cells, Nat.reduceAdd, Nat.reduceEqDiff, Nat.reduceLT, Nat.reduceLeDiff, Nat.reduceMul, Nat.reduceSub]
        | false =>
          cases e5 : (x.op == 5) with
          | true => simp -implicitDefEqProofs only [QS, QN, Go.Proofs.Tryz.f35, enc_Cond, enc_Request, e1, e2, e3, e4, e5, c4, ifEv_bool, GE.ge, reduceIte, plan_35_9, plan_35_11, SN, evCutRow, Int.reduceToNat, id_eq, Int.reduceBEq, Int.reduceLE, Int.reduceLT, SS, one_ne2, num_ne2, TIS, MDS, wanted, numbered, plainC, plainS, evEq, eqK, evBox, evAlloc, evStore, evLoad, evFieldAddr, behind, takeVal, AV.cells, AV.isCell, ofCells, ofCell, Value.cells, Nat.reduceAdd, Nat.reduceEqDiff, Nat.reduceLT, Nat.reduceLeDiff, Nat.reduceMul, Nat.reduceSub]
          | false =>
            cases e6 : (x.op == 6) <;> simp -implicitDefEqProofs only [QS, QN, Go.Proofs.Tryz.f35, enc_Cond, enc_Request, e1, e2, e3, e4, e5, e6, ifEv_bool, reduceIte, plan_35_9, plan_35_11, SN, evCutRow, Int.reduceToNat, id_eq, Int.reduceBEq, Int.reduceLE, Int.reduceLT, SS, one_ne2, num_ne2, TIS, MDS, wanted, numbered, plainC, plainS, evEq, eqK, evBox, evAlloc, evStore, evLoad, evFieldAddr, behind, takeVal, AV.cells, AV.isCell, ofCells, ofCell, Value.cells, Nat.reduceAdd, Nat.reduceEqDiff, Nat.reduceLT, Nat.reduceLeDiff, Nat.reduceMul, Nat.reduceSub]
noncomputable def evalAt (l : List Includes) (s : List Fact) (q : Request) (x : Cond) : Bool := isCond x && x.eval (leafAt l s q)
theorem r_impl_EvalCond1 {fl f2 f3 f4 : Bool} (k : Nat) (hk : 281474976710656 + 12 ≤ k) (l : List Includes) (hl : l.length ≤ 140737488355328) (s : List Fact) (hs : s.length ≤ 1099511627776) (x : Cond) (q : Request) :
    run E noExt k 34 [x.enc f3, .cptr [.sl fl (l.map (Includes.enc fl))], .cptr [.sl f2 (s.map (Fact.enc f2))], .cptr [.int .i64 q.person, .int .i64 q.device, .int .i64 q.program, .int .i64 q.action, .int .i64 q.object, .int .i64 q.now]] [] = some (.bool (leafAt l s q x), []) := by
  have c1 := r_impl_LeafHolds (fl := fl) (f2 := f2) (f3 := f3) (f4 := f4) (k - 1) (by omega) l hl s hs x q
  obtain ⟨k, rfl⟩ : ∃ j, k = j + 1 := ⟨k - 1, by omega⟩
  rw [run_succ rfl rfl, body_eq (nt := 11) (fn := Go.Proofs.Tryz.f34) (by kernel_rfl) rfl rfl rfl rfl rfl rfl rfl rfl]
  simp -implicitDefEqProofs only [Nat.add_sub_cancel, enc_Cond, enc_Request] at c1
  simp -implicitDefEqProofs only [QS, QN, Go.Proofs.Tryz.f34, enc_Cond, c1, SN, evCutRow, Int.reduceToNat, id_eq, Int.reduceBEq, Int.reduceLE, Int.reduceLT, SS, one_ne2, num_ne2, TIS, MDS, wanted, numbered, plainC, plainS, evEq, eqK, evBox, evAlloc, evStore, evLoad, evFieldAddr, behind, takeVal, AV.cells, AV.isCell, ofCells, ofCell, Value.cells, Nat.reduceAdd, Nat.reduceEqDiff, Nat.reduceLT, Nat.reduceLeDiff, Nat.reduceMul, Nat.reduceSub, reduceIte]
theorem r_impl_EvalCond {fl f2 f3 f4 : Bool} (k : Nat) (hk : 884940186000000 + 7 ≤ k) (l : List Includes) (hl : l.length ≤ 140737488355328) (s : List Fact) (hs : s.length ≤ 1099511627776) (x : Cond) (hx : x.w ≤ 1099511627776) (q : Request) :
    run E noExt k 8 [.sl fl (l.map (Includes.enc fl)), .sl f2 (s.map (Fact.enc f2)), x.enc f3, q.enc f4] [] = some (.bool (evalAt l s q x), []) := by
  have c1 := r_impl_IsCond (fl := f3) (k - 1) (by omega) x hx
  have c2 := r_impl_evalWith0 (fl := f3) 34 [.cptr [.sl fl (l.map (Includes.enc fl))], .cptr [.sl f2 (s.map (Fact.enc f2))], .cptr [.int .i64 q.person, .int .i64 q.device, .int .i64 q.program, .int .i64 q.action, .int .i64 q.object, .int .i64 q.now]] (plain_of rfl) (leafAt l s q) (281474976710656 + 12) (fun k hk c hc => r_impl_EvalCond1 (f3 := f3) (f4 := f4) k hk l hl s hs c q) x rfl (k - 1) (by omega)
  unfold evalAt
  obtain ⟨k, rfl⟩ : ∃ j, k = j + 1 := ⟨k - 1, by omega⟩
  rw [run_succ rfl rfl, body_eq (nt := 16) (fn := Go.Proofs.Tryz.f8) (by kernel_rfl) rfl rfl rfl rfl rfl rfl rfl rfl]
  simp -implicitDefEqProofs only [Nat.add_sub_cancel, enc_Cond] at c1 c2
  cases h : isCond x
  · simp -implicitDefEqProofs only [h] at c1
    simp -implicitDefEqProofs only [QS, QN, Go.Proofs.Tryz.f8, enc_Cond, enc_Request, c1, ifEv_bool, gate_bool, gateP_bool, gateQ_bool, pick_bool, SN, evCutRow, Int.reduceToNat, id_eq, Int.reduceBEq, Int.reduceLE, Int.reduceLT, SS, one_ne2, num_ne2, TIS, MDS, wanted, numbered, plainC, plainS, evEq, eqK, evBox, evAlloc, evStore, evLoad, evFieldAddr, behind, takeVal, AV.cells, AV.isCell, ofCells, ofCell, Value.cells, Nat.reduceAdd, Nat.reduceEqDiff, Nat.reduceLT, Nat.reduceLeDiff, Nat.reduceMul, Nat.reduceSub, reduceIte]
    repeat' (split <;> (rename_i h; (try simp -implicitDefEqProofs only [Bool.not_eq_true', Bool.not_eq_false', decide_eq_true_eq, decide_eq_false_iff_not] at h); (try simp -implicitDefEqProofs only [QS, QN, *, enc_Cond, enc_Request, c1, ifEv_bool, gate_bool, gateP_bool, gateQ_bool, pick_bool, SN, evCutRow, Int.reduceToNat, id_eq, Int.reduceBEq, Int.reduceLE, Int.reduceLT, SS, one_ne2, num_ne2, TIS, MDS, wanted, numbered, plainC, plainS, evEq, eqK, evBox, evAlloc, evStore, evLoad, evFieldAddr, behind, takeVal, AV.cells, AV.isCell, ofCells, ofCell, Value.cells, Nat.reduceAdd, Nat.reduceEqDiff, Nat.reduceLT, Nat.reduceLeDiff, Nat.reduceMul, Nat.reduceSub, reduceIte])))
  · have hv : x.valid = true := by
      unfold isCond at h
      simp -implicitDefEqProofs only [Bool.and_eq_true] at h
      exact h.2
    have c3 := c2 hv hx
    simp -implicitDefEqProofs only [h] at c1
    simp -implicitDefEqProofs only [QS, QN, Go.Proofs.Tryz.f8, enc_Cond, enc_Request, c1, c3, ifEv_bool, gate_bool, gateP_bool, gateQ_bool, pick_bool, SN, evCutRow, Int.reduceToNat, id_eq, Int.reduceBEq, Int.reduceLE, Int.reduceLT, SS, one_ne2, num_ne2, TIS, MDS, wanted, numbered, plainC, plainS, evEq, eqK, evBox, evAlloc, evStore, evLoad, evFieldAddr, behind, takeVal, AV.cells, AV.isCell, ofCells, ofCell, Value.cells, Nat.reduceAdd, Nat.reduceEqDiff, Nat.reduceLT, Nat.reduceLeDiff, Nat.reduceMul, Nat.reduceSub, reduceIte]
    repeat' (split <;> (rename_i h; (try simp -implicitDefEqProofs only [Bool.not_eq_true', Bool.not_eq_false', decide_eq_true_eq, decide_eq_false_iff_not] at h); (try simp -implicitDefEqProofs only [QS, QN, *, enc_Cond, enc_Request, c1, c3, ifEv_bool, gate_bool, gateP_bool, gateQ_bool, pick_bool, SN, evCutRow, Int.reduceToNat, id_eq, Int.reduceBEq, Int.reduceLE, Int.reduceLT, SS, one_ne2, num_ne2, TIS, MDS, wanted, numbered, plainC, plainS, evEq, eqK, evBox, evAlloc, evStore, evLoad, evFieldAddr, behind, takeVal, AV.cells, AV.isCell, ofCells, ofCell, Value.cells, Nat.reduceAdd, Nat.reduceEqDiff, Nat.reduceLT, Nat.reduceLeDiff, Nat.reduceMul, Nat.reduceSub, reduceIte])))
end Go.Proofs.YtigfcbcnfppmcaaGreat.Flat
