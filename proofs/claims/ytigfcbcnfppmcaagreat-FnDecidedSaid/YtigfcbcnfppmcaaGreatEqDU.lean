/-
The draws: any condition, rules.
-/
import Derived.Test.YtigfcbcnfppmcaaGreatEqDQ
set_option linter.unusedVariables false
set_option linter.unusedSimpArgs false
set_option maxRecDepth 10000
namespace Go.Proofs.YtigfcbcnfppmcaaGreat.Flat
theorem argsR_mk {id : Nat} {o a b : Int} {x : Cond} : argsR id ⟨o, a, b, x.args⟩ = argsR id x := rfl
theorem rowsD_mk {id : Nat} {o a b : Int} {x : Cond} : rowsD id ⟨o, a, b, x.args⟩ = rowsD id x := rfl
mutual
theorem mapO_id0 : ∀ v : AV, v.mapO (fun i fz e sz xs => .own i fz e sz xs) .ptr (fun d i fz e sz xs k off => .eptr d i fz e sz xs k off) (fun _ => .nils) = v
  | .own id fz e sz xs => by simp [AV.mapO]
  | .eptr d id fz e sz xs i k => by simp [AV.mapO]
  | .agg cs => by simp -implicitDefEqProofs only [AV.mapO]; rw [mapOs_id0 cs]
  | .tup cs => by simp -implicitDefEqProofs only [AV.mapO]; rw [mapOs_id0 cs]
  | .clo n cs => by simp -implicitDefEqProofs only [AV.mapO]; rw [mapOs_id0 cs]
  | .ptr _ _ => rfl
  | .undef => rfl
  | .int _ _ => rfl
  | .bool _ => rfl
  | .str _ => rfl
  | .nils => rfl
  | .sl _ _ => rfl
  | .cptr _ => rfl
  | .tr _ _ _ => rfl
theorem mapOs_id0 : ∀ vs : List AV, AV.mapOs (fun i fz e sz xs => .own i fz e sz xs) .ptr (fun d i fz e sz xs k off => .eptr d i fz e sz xs k off) (fun _ => .nils) vs = vs
  | [] => rfl
  | v :: vs => by simp -implicitDefEqProofs only [AV.mapOs]; rw [mapO_id0 v, mapOs_id0 vs]
end
theorem stmapO_id {st : St} : st.mapO (fun i fz e sz xs => .own i fz e sz xs) .ptr (fun d i fz e sz xs k off => .eptr d i fz e sz xs k off) = st := by
  obtain ⟨sl, bx, nx, nt, tr⟩ := st
  simp -implicitDefEqProofs only [St.mapO]
  have h1 : (sl.map fun p => (p.1, AV.mapO (fun i fz e sz xs => .own i fz e sz xs) .ptr (fun d i fz e sz xs k off => .eptr d i fz e sz xs k off) (fun _ => .nils) p.2)) = sl := by
    have : (fun p : Nat × AV => (p.1, AV.mapO (fun i fz e sz xs => .own i fz e sz xs) .ptr (fun d i fz e sz xs k off => .eptr d i fz e sz xs k off) (fun _ => .nils) p.2)) = id := funext fun p => by rw [mapO_id0]; rfl
    rw [this, List.map_id]
  have h2 : (bx.map fun p => (p.1, AV.mapOs (fun i fz e sz xs => .own i fz e sz xs) .ptr (fun d i fz e sz xs k off => .eptr d i fz e sz xs k off) (fun _ => .nils) p.2)) = bx := by
    have : (fun p : Nat × List AV => (p.1, AV.mapOs (fun i fz e sz xs => .own i fz e sz xs) .ptr (fun d i fz e sz xs k off => .eptr d i fz e sz xs k off) (fun _ => .nils) p.2)) = id := funext fun p => by rw [mapOs_id0]; rfl
    rw [this, List.map_id]
  rw [h1, h2]
/-- Rows that are named no more: the rows of an opaque list. -/
def scrO (ids : List Nat) (i : Nat) (fz : Bool) (e sz : Nat) (xs : List AV) : AV := if i ∈ ids then .undef else .own i fz e sz xs
def scrE (ids : List Nat) (d : Bool) (i : Nat) (fz : Bool) (e sz : Nat) (xs : List AV) (k off : Nat) : AV := if i ∈ ids then .undef else .eptr d i fz e sz xs k off
theorem scrub_all {ids : List Nat} {st : St} : st.scrub ids = st.mapO (scrO ids) .ptr (scrE ids) := by
  cases ids with
  | cons => rfl
  | nil =>
    have h1 : scrO [] = fun i fz e sz xs => AV.own i fz e sz xs := by funext i fz e sz xs; simp [scrO]
    have h2 : scrE [] = fun d i fz e sz xs k off => AV.eptr d i fz e sz xs k off := by funext d i fz e sz xs k off; simp [scrE]
    rw [h1, h2, stmapO_id]
    rfl
theorem append_argsR {t u id id2 nid : Nat} {x y : Cond} {dst : Option Nat} {st : St} (htu : t = 26) (hu : u = t) (ht : st.tree = false) (hl : x.args.length ≤ 1000000) :
    evAppend E.P t u (argsR id x) (.own id2 false 28 4 [.agg [.int .i64 y.op, .int .i64 y.a, .int .i64 y.b, .sl true (y.args.map (Cond.enc true))]]) nid dst st = (st.mapO (scrO (rowsD id x)) .ptr (scrE (rowsD id x))).put dst (argsR nid ⟨x.op, x.a, x.b, x.args ++ [y]⟩) := by
  subst hu
  subst htu
  have hr : argsR nid ⟨x.op, x.a, x.b, x.args ++ [y]⟩ = .own nid false 28 4 (x.args.map (Cond.enc true) ++ [y.enc true]) := by
    unfold argsR
    rw [rowN_ne (by simp)]
    simp
  rw [hr, ← scrub_all]
  have hm1 : (x.args.length + 1) * 48 ≤ 140737488355328 := by omega
  have hm2 : x.args.length + 1 ≤ 9223372036854775807 := by omega
  have hm9 : x.args.length ≤ 9223372036854775806 := by omega
  have hpl : plains [.agg [.int .i64 y.op, .int .i64 y.a, .int .i64 y.b, .sl true (y.args.map (Cond.enc true))]] = true := rfl
  rcases argsR_cases x with ⟨h0, h⟩ | ⟨_, h⟩
  · rw [(h _).1, (h _).2, h0]
    simp -implicitDefEqProofs only [QS, QN, QG, QO, evAppend, rowOf, hpl, enc_Cond, ht, SO, SH, frzO, frzE, AV.laid, AV.treeV, AV.treeC, St.laid, spent, AV.subs, AV.shut, AV.scal, AV.scals, evBuildSlice, elemsOf, zeroOK, noref, isRef, small, import_, AV.any, AV.anys, isPtr, finV, rename, noPtr, isBad, AV.isUndef, St.setRow, AV.shutV, rebuild, isAggV, evBuild, fillCells, evCutOwn, dedup, nodupB, idx, AV.rows, AV.rowss, AV.mapO, AV.mapOs, firstRegion, gc, keptBoxes, keptRows, renameB, AV.boxes, AV.boxess, SN, evCutRow, Int.reduceToNat, id_eq, Int.reduceBEq, Int.reduceLE, Int.reduceLT, SS, one_ne2, num_ne2, TIS, MDS, wanted, numbered, plainC, plainS, evEq, eqK, evBox, evAlloc, evStore, evLoad, evFieldAddr, behind, takeVal, AV.cells, AV.isCell, ofCells, ofCell, Value.cells, Nat.reduceAdd, Nat.reduceEqDiff, Nat.reduceLT, Nat.reduceLeDiff, Nat.reduceMul, Nat.reduceSub, reduceIte]
  · rw [(h _).1, (h _).2]
    simp -implicitDefEqProofs only [QS, QN, QG, QO, evAppend, rowOf, hpl, enc_Cond, ht, hm1, hm2, hm9, SO, SH, frzO, frzE, AV.laid, AV.treeV, AV.treeC, St.laid, spent, AV.subs, AV.shut, AV.scal, AV.scals, evBuildSlice, elemsOf, zeroOK, noref, isRef, small, import_, AV.any, AV.anys, isPtr, finV, rename, noPtr, isBad, AV.isUndef, St.setRow, AV.shutV, rebuild, isAggV, evBuild, fillCells, evCutOwn, dedup, nodupB, idx, AV.rows, AV.rowss, AV.mapO, AV.mapOs, firstRegion, gc, keptBoxes, keptRows, renameB, AV.boxes, AV.boxess, SN, evCutRow, Int.reduceToNat, id_eq, Int.reduceBEq, Int.reduceLE, Int.reduceLT, SS, one_ne2, num_ne2, TIS, MDS, wanted, numbered, plainC, plainS, evEq, eqK, evBox, evAlloc, evStore, evLoad, evFieldAddr, behind, takeVal, AV.cells, AV.isCell, ofCells, ofCell, Value.cells, Nat.reduceAdd, Nat.reduceEqDiff, Nat.reduceLT, Nat.reduceLeDiff, Nat.reduceMul, Nat.reduceSub, reduceIte]
theorem append_leafR {t u id id2 nid : Nat} {x y : Cond} {dst : Option Nat} {st : St} (hy : y.args = []) (htu : t = 26) (hu : u = t) (ht : st.tree = false) (hl : x.args.length ≤ 1000000) :
    evAppend E.P t u (argsR id x) (.own id2 false 28 4 [.agg [.int .i64 y.op, .int .i64 y.a, .int .i64 y.b, .sl true []]]) nid dst st = (st.mapO (scrO (rowsD id x)) .ptr (scrE (rowsD id x))).put dst (argsR nid ⟨x.op, x.a, x.b, x.args ++ [y]⟩) := by
  have := append_argsR (id := id) (id2 := id2) (nid := nid) (x := x) (y := y) (dst := dst) htu hu ht hl
  rw [hy] at this
  exact this
def anyCondN (bs : List Int) (x : Cond) (i : Nat) (h : Int) : Nat → Draw Cond
  | 0 => (⟨below1 bs 11 i h, x.a, x.b, x.args⟩, belowI bs 11 i, belowH 11 h)
  | 1 => (⟨x.op, oneOf bs [-1, 0, 3, 4, 5, 6, 10000, 10001] i h, x.b, x.args⟩, belowI bs ((8 : Nat) : Int) i, belowH ((8 : Nat) : Int) h)
  | 2 => (⟨x.op, x.a, oneOf bs [-1, 0, 10000, 10001] i h, x.args⟩, belowI bs ((4 : Nat) : Int) i, belowH ((4 : Nat) : Int) h)
  | 3 => (⟨x.op, x.a, x.b, x.args ++ [(leafD bs i h).1]⟩, (leafD bs i h).2.1, (leafD bs i h).2.2)
  | _ => (x, i, h)
def anyCondD (bs : List Int) (i : Nat) (h : Int) : Draw Cond :=
  anyCondN bs (condD bs 2 i h).1 (belowI bs 8 (condD bs 2 i h).2.1) (belowH 8 (condD bs 2 i h).2.2) (below1 bs 8 (condD bs 2 i h).2.1 (condD bs 2 i h).2.2).toNat
theorem r_spec_l15Any {fl : Bool} (k : Nat) (hk : 290271069732864 + 10 ≤ k) (bs : List Int) (hb : bs.length ≤ 140737488355328) (i : Nat) (h : Int) :
    run E noExt k 32 [.ptr 0 0] [[.sl fl (bs.map byteA), .int .i64 (i : Nat), .int .i64 h]] = some ((anyCondD bs i h).1.dAV, [[.sl fl (bs.map byteA), .int .i64 ((anyCondD bs i h).2.1 : Nat), .int .i64 (anyCondD bs i h).2.2]]) := by
  have c1 := fun n i h => r_spec_l1Below (fl := fl) (k - 1) (by omega) bs hb n i h
  have c2 := fun i h => r_spec_l1Int (fl := fl) (k - 1) (by omega) bs hb [-1, 0, 3, 4, 5, 6, 10000, 10001] (by decide) i h
  have c3 := fun i h => r_spec_l1Int (fl := fl) (k - 1) (by omega) bs hb [-1, 0, 10000, 10001] (by decide) i h
  have c4 := fun i h => r_spec_l15CondZ (fl := fl) (k - 1) (by omega) bs hb i h
  have c5 := fun i h => r_spec_l15Leaf (fl := fl) (k - 1) (by omega) bs hb i h
  have hlt := below_lt bs (n := 8) (by omega) (by omega) (condD bs 2 i h).2.1 (condD bs 2 i h).2.2
  have hleaf : ∀ id i h, argsR id (leafD bs i h).1 = .nils := fun id i h => argsR_nil (leafN_args _)
  have hleaf2 : ∀ i h, (leafD bs i h).1.args = [] := fun i h => leafN_args _
  have hlen : (condD bs 2 i h).1.args.length ≤ 1000000 := by have := condD_len bs 2 i h; omega
  obtain ⟨k, rfl⟩ : ∃ j, k = j + 1 := ⟨k - 1, by omega⟩
  rw [run_succ rfl rfl, body_eq (nt := 35) (fn := Go.Proofs.Tryz.f32) (by kernel_rfl) rfl rfl rfl rfl rfl rfl rfl rfl]
  simp -implicitDefEqProofs only [Nat.add_sub_cancel, dAV_D, List.map_cons, List.map_nil, List.length_cons, List.length_nil, Nat.zero_add, Nat.reduceAdd] at c1 c2 c3 c4 c5
  unfold anyCondD
  have c6 := c4 i h
  generalize condD bs 2 i h = X at *
  generalize hd : below1 bs 8 X.2.1 X.2.2 = d at *
  have hm : d = 0 ∨ d = 1 ∨ d = 2 ∨ d = 3 ∨ d = 4 ∨ d = 5 ∨ d = 6 ∨ d = 7 := by omega
  rcases hm with rfl | rfl | rfl | rfl | rfl | rfl | rfl | rfl
  all_goals
    simp -implicitDefEqProofs only [QS, QN, QG, QO, anyCondN, Int.reduceToNat, dAV_D, argsR_mk, rowsD_mk, hlen, hleaf, append_leafR, hleaf2, hd, finish_cell1, finish_cell2, finCell_some, Go.Proofs.Tryz.f32, c1, c2, c3, c5, c6, plan_32_10, rows_argsR, boxes_argsR, ↓isCell_argsR, cells_argsR, cellsX_agg, cellsX_int, cellsX_bool, cellsX_str, cellsX_nils, cellsX_sl, cellsX_own, cellsX_ptr, cellsX_cptr, cellsX_undef, dedup_rowsD, nodup_rowsD, all_rowsD, all_rowsT, small_rowsD, bad_argsR, ptr_argsR, mapO_argsR, imp_argsR, lend_argsR4, shut_argsR, mem_rowsD, allmem_rowsD, after_D, freeze_ite, frzB_argsR, away_argsR, calm_argsR, opS_store, slidP_ptr, opS_call, slidM_io1, slidM_io2, away_F, away_ptr, away_int, away_bool, away_nils, away_undef, away_sl, away_agg, away_own, look_nil, evCall_io1, evCall_io2, evCall_io3, evCall_io4, finJ_1, finJ_2, finJ_3, finJ_4, finJ_int, finJ_bool, finJ_str, finJ_nils, finJ_agg, finJ_own, finJ_sl, finJ_tup, look_cons, reduceCtorEq, evCall_mutOwn, evCall_mutAgg, evGive, giveRows, ioBoxes, mutArgs, roArgs, handArg, mutSlots, isPtrB, pairs, pairss, back_nil, back_cons, backO, backE, setBoxes, importB, mode_mut, mode_give, mode_io, mode_ro, List.zip_cons_cons, List.zip_nil_left, List.zip_nil_right, ite_self, ite_true, ite_false, finish_give, finish_mut1, finish_io0, finish_io2, finish_io3, finish_ioc, finI, finC, finW_ptr, SO, SH, frzO, frzE, AV.laid, AV.treeV, AV.treeC, St.laid, spent, AV.subs, AV.shut, AV.scal, AV.scals, evBuildSlice, elemsOf, zeroOK, noref, isRef, small, import_, AV.any, AV.anys, isPtr, finV, rename, noPtr, isBad, AV.isUndef, St.setRow, AV.shutV, rebuild, isAggV, evBuild, fillCells, evCutOwn, dedup, nodupB, idx, AV.rows, AV.rowss, AV.mapO, AV.mapOs, firstRegion, gc, keptBoxes, keptRows, renameB, AV.boxes, AV.boxess, SN, evCutRow, id_eq, Int.reduceBEq, Int.reduceLE, Int.reduceLT, SS, one_ne2, num_ne2, TIS, MDS, wanted, numbered, plainC, plainS, evEq, eqK, evBox, evAlloc, evStore, evLoad, evFieldAddr, behind, takeVal, AV.isCell, ofCells, ofCell, Value.cells, Nat.reduceAdd, Nat.reduceEqDiff, Nat.reduceLT, Nat.reduceLeDiff, Nat.reduceMul, Nat.reduceSub, reduceIte]
    try trace_state
end Go.Proofs.YtigfcbcnfppmcaaGreat.Flat
