/-
Chosen facts, and whether they suffice.
-/
import Derived.Test.YtfiapiobaelgoaaGreatEqB
import Derived.Test.YtfiapiobaelgoaaGreatEqNA
set_option linter.unusedVariables false
set_option linter.unusedSimpArgs false
set_option maxRecDepth 10000
namespace Go.Proofs.YtfiapiobaelgoaaGreat.Flat
noncomputable def suffices_ (l : List Includes) (s : List Fact) (p : Policy) (q : Request) (keep : List Int) : Bool := decideBy l (onlyFacts s keep) p q == decideBy l s p q
theorem r_spec_Suffices {fl f2 f3 f4 f5 : Bool} (k : Nat) (hk : 294669116243968 + 17 ≤ k) (l : List Includes) (hl : l.length ≤ 140737488355328) (s : List Fact) (hs : s.length ≤ 1099511627776) (p : Policy) (hp : p.w ≤ 1099511627776) (q : Request) (keep : List Int) (hkp : keep.length ≤ 140737488355328) :
    run E noExt k 27 [.sl fl (l.map (Includes.enc fl)), .sl f2 (s.map (Fact.enc f2)), p.enc f3, q.enc f4, .sl f5 (keep.map (AV.int .i64))] [] = some (.bool (suffices_ l s p q keep), []) := by
  have c1 := r_spec_OnlyFacts (fl := f2) (f2 := f5) (k - 1) (by omega) s hs keep hkp
  have c2 := r_spec_DecideBy (fl := fl) (f2 := true) (f3 := f3) (f4 := f4) (k - 1) (by omega) l hl (onlyFacts s keep) (by have := onlyFacts_len s keep; omega) p hp q
  have c3 := r_spec_DecideBy (fl := fl) (f2 := f2) (f3 := f3) (f4 := f4) (k - 1) (by omega) l hl s (by omega) p hp q
  unfold suffices_
  obtain ⟨k, rfl⟩ : ∃ j, k = j + 1 := ⟨k - 1, by omega⟩
  rw [run_succ rfl rfl, body_eq (nt := 24) (fn := Go.Proofs.Tryz.f27) (by kernel_rfl) rfl rfl rfl rfl rfl rfl rfl rfl]
  simp -implicitDefEqProofs only [Nat.add_sub_cancel, enc_Policy, enc_Request] at c1 c2 c3
  simp -implicitDefEqProofs only [QS, QN, QG, QO, Go.Proofs.Tryz.f27, enc_Policy, enc_Request, c1, c2, c3, scals_Fact, plains_Fact, rowss_Fact, boxess_Fact, mapOs_Fact, plan_27_1, ifEv_bool, SO, SH, frzO, frzE, AV.laid, AV.treeV, AV.treeC, St.laid, spent, AV.subs, AV.shut, AV.scal, AV.scals, evBuildSlice, elemsOf, zeroOK, evAppend, rowOf, noref, isRef, small, import_, AV.any, AV.anys, isPtr, finV, rename, noPtr, isBad, AV.isUndef, St.setRow, AV.shutV, rebuild, isAggV, evBuild, fillCells, evCutOwn, dedup, nodupB, idx, AV.rows, AV.rowss, AV.mapO, AV.mapOs, firstRegion, gc, keptBoxes, keptRows, renameB, AV.boxes, AV.boxess, SN, evCutRow, Int.reduceToNat, id_eq, Int.reduceBEq, Int.reduceLE, Int.reduceLT, SS, one_ne2, num_ne2, TIS, MDS, wanted, numbered, plainC, plainS, evEq, eqK, evBox, evAlloc, evStore, evLoad, evFieldAddr, behind, takeVal, AV.cells, AV.isCell, ofCells, ofCell, Value.cells, Nat.reduceAdd, Nat.reduceEqDiff, Nat.reduceLT, Nat.reduceLeDiff, Nat.reduceMul, Nat.reduceSub, reduceIte]
theorem r_impl_Suffices {fl f2 f3 f4 f5 : Bool} (k : Nat) (hk : 884940186000000 + 10 ≤ k) (l : List Includes) (hl : l.length ≤ 140737488355328) (s : List Fact) (hs : s.length ≤ 1099511627776) (p : Policy) (hp : p.w ≤ 1099511627776) (q : Request) (keep : List Int) (hkp : keep.length ≤ 140737488355328) :
    run E noExt k 32 [.sl fl (l.map (Includes.enc fl)), .sl f2 (s.map (Fact.enc f2)), p.enc f3, q.enc f4, .sl f5 (keep.map (AV.int .i64))] [] = some (.bool (suffices_ l s p q keep), []) := by
  have c1 := r_impl_OnlyFacts (fl := f2) (f2 := f5) (k - 1) (by omega) s hs keep hkp
  have c2 := r_impl_DecideBy (fl := fl) (f2 := true) (f3 := f3) (f4 := f4) (k - 1) (by omega) l hl (onlyFacts s keep) (by have := onlyFacts_len s keep; omega) p hp q
  have c3 := r_impl_DecideBy (fl := fl) (f2 := f2) (f3 := f3) (f4 := f4) (k - 1) (by omega) l hl s (by omega) p hp q
  unfold suffices_
  obtain ⟨k, rfl⟩ : ∃ j, k = j + 1 := ⟨k - 1, by omega⟩
  rw [run_succ rfl rfl, body_eq (nt := 24) (fn := Go.Proofs.Tryz.f32) (by kernel_rfl) rfl rfl rfl rfl rfl rfl rfl rfl]
  simp -implicitDefEqProofs only [Nat.add_sub_cancel, enc_Policy, enc_Request] at c1 c2 c3
  simp -implicitDefEqProofs only [QS, QN, QG, QO, Go.Proofs.Tryz.f32, enc_Policy, enc_Request, c1, c2, c3, scals_Fact, plains_Fact, rowss_Fact, boxess_Fact, mapOs_Fact, plan_32_1, ifEv_bool, SO, SH, frzO, frzE, AV.laid, AV.treeV, AV.treeC, St.laid, spent, AV.subs, AV.shut, AV.scal, AV.scals, evBuildSlice, elemsOf, zeroOK, evAppend, rowOf, noref, isRef, small, import_, AV.any, AV.anys, isPtr, finV, rename, noPtr, isBad, AV.isUndef, St.setRow, AV.shutV, rebuild, isAggV, evBuild, fillCells, evCutOwn, dedup, nodupB, idx, AV.rows, AV.rowss, AV.mapO, AV.mapOs, firstRegion, gc, keptBoxes, keptRows, renameB, AV.boxes, AV.boxess, SN, evCutRow, Int.reduceToNat, id_eq, Int.reduceBEq, Int.reduceLE, Int.reduceLT, SS, one_ne2, num_ne2, TIS, MDS, wanted, numbered, plainC, plainS, evEq, eqK, evBox, evAlloc, evStore, evLoad, evFieldAddr, behind, takeVal, AV.cells, AV.isCell, ofCells, ofCell, Value.cells, Nat.reduceAdd, Nat.reduceEqDiff, Nat.reduceLT, Nat.reduceLeDiff, Nat.reduceMul, Nat.reduceSub, reduceIte]
end Go.Proofs.YtfiapiobaelgoaaGreat.Flat
