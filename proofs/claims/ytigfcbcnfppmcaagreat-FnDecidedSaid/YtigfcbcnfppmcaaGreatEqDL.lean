/-
The draws: conditions.
-/
import Derived.Test.YtigfcbcnfppmcaaGreatEqDP
import Derived.Test.YtigfcbcnfppmcaaGreatEqCP
set_option linter.unusedVariables false
set_option linter.unusedSimpArgs false
set_option maxRecDepth 10000
namespace Go.Proofs.YtigfcbcnfppmcaaGreat.Flat
section
variable {P : Program} {st : St}
/-- A function that is handed a variable, its result in a variable of its own. -/
def finCell (P : Program) (md : List Mode) (r : ResultVar) (st : St) : Option AV → Option (AV × List (List AV))
  | some v => if isPtrB v = true then finish P md [r] 1 st else finI st v
  | none => none
theorem finCell_some {md : List Mode} {r : ResultVar} {cs : List AV} : finCell P md r st (some (.agg cs)) = finI st (.agg cs) := rfl
theorem finish_cellM {m : Mode} {md : List Mode} {a t : Nat} (hm : mutSlots 0 (m :: md) = []) : finish P (m :: md) [.cell a t] 1 st = finCell P (m :: md) (.cell a t) st (evLoad P st.box t (st.get a)) := by
  cases h : evLoad P st.box t (st.get a) with
  | none =>
    unfold finish
    simp -implicitDefEqProofs only [resultsOf, resultOf, h, Option.map_none, Option.bind_none]
    rfl
  | some v =>
    unfold finCell
    split
    · rename_i v' hv
      obtain rfl := Option.some.inj hv
      split
      · rfl
      · rename_i hp
        rw [← finI_eq (isPtrB_no (by simpa using hp))]
        unfold finish
        simp -implicitDefEqProofs only [resultsOf, resultOf, h, Option.map_some, Option.bind_some, tupOf, hm]
        rfl
    · rename_i hv
      simp at hv
theorem finish_cell1 {a t : Nat} : finish P [.io] [.cell a t] 1 st = finCell P [.io] (.cell a t) st (evLoad P st.box t (st.get a)) := finish_cellM rfl
theorem finish_cell2 {a t : Nat} : finish P [.io, .ro] [.cell a t] 1 st = finCell P [.io, .ro] (.cell a t) st (evLoad P st.box t (st.get a)) := finish_cellM rfl
end
def leafN (bs : List Int) (age : Int) (i : Nat) (h : Int) : Nat → Draw Cond
  | 0 => (⟨1, 0, 0, []⟩, i, h)
  | 1 => (⟨2, below1 bs 3 i h, age, []⟩, belowI bs 3 i, belowH 3 h)
  | 2 => (⟨2, below1 bs 3 i h, age, []⟩, belowI bs 3 i, belowH 3 h)
  | 3 => (⟨3, 0, age, []⟩, i, h)
  | 4 => (⟨4, IntKind.i64.wrap (1 + below1 bs 3 i h), age, []⟩, belowI bs 3 i, belowH 3 h)
  | 5 => (⟨5, IntKind.i64.wrap (1 + below1 bs 2 i h), age, []⟩, belowI bs 2 i, belowH 2 h)
  | _ => (⟨6, oneOf bs [5, 15, 25] i h, 0, []⟩, belowI bs ((3 : Nat) : Int) i, belowH ((3 : Nat) : Int) h)
def leafD (bs : List Int) (i : Nat) (h : Int) : Draw Cond :=
  leafN bs (oneOf bs [3, 10, 20] i h) (belowI bs 7 (belowI bs ((3 : Nat) : Int) i)) (belowH 7 (belowH ((3 : Nat) : Int) h)) (below1 bs 7 (belowI bs ((3 : Nat) : Int) i) (belowH ((3 : Nat) : Int) h)).toNat
theorem leafN_args {bs : List Int} {age : Int} {i : Nat} {h : Int} (n : Nat) : (leafN bs age i h n).1.args = [] := by
  unfold leafN
  split <;> rfl
/-- A drawn condition: its arguments nil, or a row. -/
def Cond.dAV (x : Cond) : AV := .agg [.int .i64 x.op, .int .i64 x.a, .int .i64 x.b, rowN 0 (x.args.map (Cond.enc true))]
theorem r_spec_l15Leaf {fl : Bool} (k : Nat) (hk : 281474976710656 + 4 ≤ k) (bs : List Int) (hb : bs.length ≤ 140737488355328) (i : Nat) (h : Int) :
    run E noExt k 73 [.ptr 0 0] [[.sl fl (bs.map byteA), .int .i64 (i : Nat), .int .i64 h]] = some ((leafD bs i h).1.dAV, [[.sl fl (bs.map byteA), .int .i64 ((leafD bs i h).2.1 : Nat), .int .i64 (leafD bs i h).2.2]]) := by
  have c1 := fun n i h => r_spec_l1Below (fl := fl) (k - 1) (by omega) bs hb n i h
  have c2 := fun i h => r_spec_l1Int (fl := fl) (k - 1) (by omega) bs hb [3, 10, 20] (by decide) i h
  have c3 := fun i h => r_spec_l1Int (fl := fl) (k - 1) (by omega) bs hb [5, 15, 25] (by decide) i h
  have hlt := below_lt bs (n := 7) (by omega) (by omega) (belowI bs ((3 : Nat) : Int) i) (belowH ((3 : Nat) : Int) h)
  obtain ⟨k, rfl⟩ : ∃ j, k = j + 1 := ⟨k - 1, by omega⟩
  rw [run_succ rfl rfl, body_eq (nt := 41) (fn := Go.Proofs.Tryz.f73) (by kernel_rfl) rfl rfl rfl rfl rfl rfl rfl rfl]
  simp -implicitDefEqProofs only [Nat.add_sub_cancel, List.map_cons, List.map_nil, List.length_cons, List.length_nil, Nat.zero_add, Nat.reduceAdd] at c1 c2 c3
  unfold leafD
  generalize hd : below1 bs 7 (belowI bs ((3 : Nat) : Int) i) (belowH ((3 : Nat) : Int) h) = d at *
  have hm : d = 0 ∨ d = 1 ∨ d = 2 ∨ d = 3 ∨ d = 4 ∨ d = 5 ∨ d = 6 := by omega
  cases he : bs.isEmpty
  all_goals
    rcases hm with rfl | rfl | rfl | rfl | rfl | rfl | rfl
    all_goals
      simp -implicitDefEqProofs only [QS, QN, QG, QO, ↓ref_bytes, he, leafN, finish_cell1, finish_cell2, finCell_some, Cond.dAV, rowN_nil, Go.Proofs.Tryz.f73, c1, c2, c3, hd, Int.reduceToNat, Int.reduceBEq, look_nil, evCall_io1, evCall_io2, evCall_io3, evCall_io4, finJ_1, finJ_2, finJ_3, finJ_4, finJ_int, finJ_bool, finJ_str, finJ_nils, finJ_agg, finJ_own, finJ_sl, finJ_tup, look_cons, reduceCtorEq, evCall_mutOwn, evCall_mutAgg, evGive, giveRows, ioBoxes, mutArgs, roArgs, handArg, mutSlots, isPtrB, pairs, pairss, back_nil, back_cons, backO, backE, setBoxes, importB, mode_mut, mode_give, mode_io, mode_ro, List.zip_cons_cons, List.zip_nil_left, List.zip_nil_right, ite_self, ite_true, ite_false, finish_give, finish_mut1, finish_io0, finish_io2, finish_io3, finish_ioc, finI, finC, finW_ptr, SO, SH, frzO, frzE, AV.laid, AV.treeV, AV.treeC, St.laid, spent, AV.subs, AV.shut, AV.scal, AV.scals, evBuildSlice, elemsOf, zeroOK, evAppend, rowOf, noref, isRef, small, import_, AV.any, AV.anys, isPtr, finV, rename, noPtr, isBad, AV.isUndef, St.setRow, AV.shutV, rebuild, isAggV, evBuild, fillCells, evCutOwn, dedup, nodupB, idx, AV.rows, AV.rowss, AV.mapO, AV.mapOs, firstRegion, gc, keptBoxes, keptRows, renameB, AV.boxes, AV.boxess, SN, evCutRow, id_eq, Int.reduceLE, Int.reduceLT, SS, one_ne2, num_ne2, TIS, MDS, wanted, numbered, plainC, plainS, evEq, eqK, evBox, evAlloc, evStore, evLoad, evFieldAddr, behind, takeVal, AV.cells, AV.isCell, ofCells, ofCell, Value.cells, Nat.reduceAdd, Nat.reduceEqDiff, Nat.reduceLT, Nat.reduceLeDiff, Nat.reduceMul, Nat.reduceSub, reduceIte]
      try trace_state
end Go.Proofs.YtigfcbcnfppmcaaGreat.Flat
