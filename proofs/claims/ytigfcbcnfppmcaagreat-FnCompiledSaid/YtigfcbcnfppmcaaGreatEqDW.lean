/-
The draws: any condition, rules.
-/
import Derived.Test.YtigfcbcnfppmcaaGreatEqDQ
set_option linter.unusedVariables false
set_option linter.unusedSimpArgs false
set_option maxRecDepth 10000
namespace Go.Proofs.YtigfcbcnfppmcaaGreat.Flat
theorem argsR_mk {id : Nat} {o a b : Int} {x : Cond} : argsR id ⟨o, a, b, x.args⟩ = argsR id x := rfl
theorem rowsD_mk {id : Nat} {o a b : Int} {x : Cond} : rowsD id ⟨o, a, b, x.args⟩ = rowsD id x := rfl
mutual
theorem mapO_id0 : ∀ v : AV, v.mapO (fun i fz e sz xs => .own i fz e sz xs) .ptr (fun d i fz e sz xs k off => .eptr d i fz e sz xs k off) (fun _ => .nils) = v
  | .own id fz e sz xs => by simp [AV.mapO]
  | .eptr d id fz e sz xs i k => by simp [AV.mapO]
  | .agg cs => by simp -implicitDefEqProofs only [AV.mapO]; rw [mapOs_id0 cs]
  | .tup cs => by simp -implicitDefEqProofs only [AV.mapO]; rw [mapOs_id0 cs]
  | .clo n cs => by simp -implicitDefEqProofs only [AV.mapO]; rw [mapOs_id0 cs]
  | .ptr _ _ => rfl
  | .undef => rfl
  | .int _ _ => rfl
  | .bool _ => rfl
  | .str _ => rfl
  | .nils => rfl
  | .sl _ _ => rfl
  | .cptr _ => rfl
  | .tr _ _ _ => rfl
theorem mapOs_id0 : ∀ vs : List AV, AV.mapOs (fun i fz e sz xs => .own i fz e sz xs) .ptr (fun d i fz e sz xs k off => .eptr d i fz e sz xs k off) (fun _ => .nils) vs = vs
  | [] => rfl
  | v :: vs => by simp -implicitDefEqProofs only [AV.mapOs]; rw [mapO_id0 v, mapOs_id0 vs]
end
theorem stmapO_id {st : St} : st.mapO (fun i fz e sz xs => .own i fz e sz xs) .ptr (fun d i fz e sz xs k off => .eptr d i fz e sz xs k off) = st := by
  obtain ⟨sl, bx, nx, nt, tr⟩ := st
  simp -implicitDefEqProofs only [St.mapO]
  have h1 : (sl.map fun p => (p.1, AV.mapO (fun i fz e sz xs => .own i fz e sz xs) .ptr (fun d i fz e sz xs k off => .eptr d i fz e sz xs k off) (fun _ => .nils) p.2)) = sl := by
    have : (fun p : Nat × AV => (p.1, AV.mapO (fun i fz e sz xs => .own i fz e sz xs) .ptr (fun d i fz e sz xs k off => .eptr d i fz e sz xs k off) (fun _ => .nils) p.2)) = id := funext fun p => by rw [mapO_id0]; rfl
    rw [this, List.map_id]
  have h2 : (bx.map fun p => (p.1, AV.mapOs (fun i fz e sz xs => .own i fz e sz xs) .ptr (fun d i fz e sz xs k off => .eptr d i fz e sz xs k off) (fun _ => .nils) p.2)) = bx := by
    have : (fun p : Nat × List AV => (p.1, AV.mapOs (fun i fz e sz xs => .own i fz e sz xs) .ptr (fun d i fz e sz xs k off => .eptr d i fz e sz xs k off) (fun _ => .nils) p.2)) = id := funext fun p => by rw [mapOs_id0]; rfl
    rw [this, List.map_id]
  rw [h1, h2]
/-- Rows that are named no more: the rows of an opaque list. -/
def scrO (ids : List Nat) (i : Nat) (fz : Bool) (e sz : Nat) (xs : List AV) : AV := if i ∈ ids then .undef else .own i fz e sz xs
def scrE (ids : List Nat) (d : Bool) (i : Nat) (fz : Bool) (e sz : Nat) (xs : List AV) (k off : Nat) : AV := if i ∈ ids then .undef else .eptr d i fz e sz xs k off
theorem scrub_all {ids : List Nat} {st : St} : st.scrub ids = st.mapO (scrO ids) .ptr (scrE ids) := by
  cases ids with
  | cons => rfl
  | nil =>
    have h1 : scrO [] = fun i fz e sz xs => AV.own i fz e sz xs := by funext i fz e sz xs; simp [scrO]
    have h2 : scrE [] = fun d i fz e sz xs k off => AV.eptr d i fz e sz xs k off := by funext d i fz e sz xs k off; simp [scrE]
    rw [h1, h2, stmapO_id]
    rfl
theorem append_argsR {t u id id2 nid : Nat} {x y : Cond} {dst : Option Nat} {st : St} (htu : t = 26) (hu : u = t) (ht : st.tree = false) (hl : x.args.length ≤ 1000000) :
    evAppend E.P t u (argsR id x) (.own id2 false 28 4 [.agg [.int .i64 y.op, .int .i64 y.a, .int .i64 y.b, .sl true (y.args.map (Cond.enc true))]]) nid dst st = (st.mapO (scrO (rowsD id x)) .ptr (scrE (rowsD id x))).put dst (argsR nid ⟨x.op, x.a, x.b, x.args ++ [y]⟩) := by
  subst hu
  subst htu
  have hr : argsR nid ⟨x.op, x.a, x.b, x.args ++ [y]⟩ = .own nid false 28 4 (x.args.map (Cond.enc true) ++ [y.enc true]) := by
    unfold argsR
    rw [rowN_ne (by simp)]
    simp
  rw [hr, ← scrub_all]
  have hm1 : (x.args.length + 1) * 48 ≤ 140737488355328 := by omega
  have hm2 : x.args.length + 1 ≤ 9223372036854775807 := by omega
  have hm9 : x.args.length ≤ 9223372036854775806 := by omega
  have hpl : plains [.agg [.int .i64 y.op, .int .i64 y.a, .int .i64 y.b, .sl true (y.args.map (Cond.enc true))]] = true := rfl
  rcases argsR_cases x with ⟨h0, h⟩ | ⟨_, h⟩
  · rw [(h _).1, (h _).2, h0]
    simp -implicitDefEqProofs only [QS, QN, QG, QO, ZRS, ↓ZDS, ZRG, ↓ZDG, ZRO, ↓ZDO, evAppend, rowOf, hpl, enc_Cond, ht, SO, SH, noref, isRef, isPtr, noPtr, isBad, AV.isUndef, SN, evCutRow, Int.reduceToNat, id_eq, Int.reduceBEq, Int.reduceLE, Int.reduceLT, SS, one_ne2, num_ne2, TIS, MDS, AV.cells, AV.isCell, Value.cells, Nat.reduceAdd, Nat.reduceEqDiff, Nat.reduceLT, Nat.reduceLeDiff, Nat.reduceMul, Nat.reduceSub, reduceIte]
  · rw [(h _).1, (h _).2]
    simp -implicitDefEqProofs only [QS, QN, QG, QO, ZRS, ↓ZDS, ZRG, ↓ZDG, ZRO, ↓ZDO, evAppend, rowOf, hpl, enc_Cond, ht, hm1, hm2, hm9, SO, SH, noref, isRef, isPtr, noPtr, isBad, AV.isUndef, SN, evCutRow, Int.reduceToNat, id_eq, Int.reduceBEq, Int.reduceLE, Int.reduceLT, SS, one_ne2, num_ne2, TIS, MDS, AV.cells, AV.isCell, Value.cells, Nat.reduceAdd, Nat.reduceEqDiff, Nat.reduceLT, Nat.reduceLeDiff, Nat.reduceMul, Nat.reduceSub, reduceIte]
theorem append_leafR {t u id id2 nid : Nat} {x y : Cond} {dst : Option Nat} {st : St} (hy : y.args = []) (htu : t = 26) (hu : u = t) (ht : st.tree = false) (hl : x.args.length ≤ 1000000) :
    evAppend E.P t u (argsR id x) (.own id2 false 28 4 [.agg [.int .i64 y.op, .int .i64 y.a, .int .i64 y.b, .sl true []]]) nid dst st = (st.mapO (scrO (rowsD id x)) .ptr (scrE (rowsD id x))).put dst (argsR nid ⟨x.op, x.a, x.b, x.args ++ [y]⟩) := by
  have := append_argsR (id := id) (id2 := id2) (nid := nid) (x := x) (y := y) (dst := dst) htu hu ht hl
  rw [hy] at this
  exact this
def anyCondN (bs : List Int) (x : Cond) (i : Nat) (h : Int) : Nat → Draw Cond
  | 0 => (⟨below1 bs 11 i h, x.a, x.b, x.args⟩, belowI bs 11 i, belowH 11 h)
  | 1 => (⟨x.op, oneOf bs [-1, 0, 3, 4, 5, 6, 10000, 10001] i h, x.b, x.args⟩, belowI bs ((8 : Nat) : Int) i, belowH ((8 : Nat) : Int) h)
  | 2 => (⟨x.op, x.a, oneOf bs [-1, 0, 10000, 10001] i h, x.args⟩, belowI bs ((4 : Nat) : Int) i, belowH ((4 : Nat) : Int) h)
  | 3 => (⟨x.op, x.a, x.b, x.args ++ [(leafD bs i h).1]⟩, (leafD bs i h).2.1, (leafD bs i h).2.2)
  | _ => (x, i, h)
def anyCondD (bs : List Int) (i : Nat) (h : Int) : Draw Cond :=
  anyCondN bs (condD bs 2 i h).1 (belowI bs 8 (condD bs 2 i h).2.1) (belowH 8 (condD bs 2 i h).2.2) (below1 bs 8 (condD bs 2 i h).2.1 (condD bs 2 i h).2.2).toNat
theorem r_spec_l15Any {fl : Bool} (k : Nat) (hk : 290271069732864 + 10 ≤ k) (bs : List Int) (hb : bs.length ≤ 140737488355328) (i : Nat) (h : Int) :
    run E noExt k 32 [.ptr 0 0] [[.sl fl (bs.map byteA), .int .i64 (i : Nat), .int .i64 h]] = some ((anyCondD bs i h).1.dAV, [[.sl fl (bs.map byteA), .int .i64 ((anyCondD bs i h).2.1 : Nat), .int .i64 (anyCondD bs i h).2.2]]) := by
  have c1 := fun n i h => r_spec_l1Below (fl := fl) (k - 1) (by omega) bs hb n i h
  have c2 := fun i h => r_spec_l1Int (fl := fl) (k - 1) (by omega) bs hb [-1, 0, 3, 4, 5, 6, 10000, 10001] (by decide) i h
  have c3 := fun i h => r_spec_l1Int (fl := fl) (k - 1) (by omega) bs hb [-1, 0, 10000, 10001] (by decide) i h
  have c4 := fun i h => r_spec_l15CondZ (fl := fl) (k - 1) (by omega) bs hb i h
  have c5 := fun i h => r_spec_l15Leaf (fl := fl) (k - 1) (by omega) bs hb i h
  have hlt := below_lt bs (n := 8) (by omega) (by omega) (condD bs 2 i h).2.1 (condD bs 2 i h).2.2
  have hleaf : ∀ id i h, argsR id (leafD bs i h).1 = .nils := fun id i h => argsR_nil (leafN_args _)
  have hleaf2 : ∀ i h, (leafD bs i h).1.args = [] := fun i h => leafN_args _
  have hlen : (condD bs 2 i h).1.args.length ≤ 1000000 := by have := condD_len bs 2 i h; omega
  obtain ⟨k, rfl⟩ : ∃ j, k = j + 1 := ⟨k - 1, by omega⟩
  rw [run_succ rfl rfl, body_eq (nt := 35) (fn := Go.Proofs.Tryz.f32) (by kernel_rfl) rfl rfl rfl rfl rfl rfl rfl rfl]
  simp -implicitDefEqProofs only [Nat.add_sub_cancel, dAV_D, List.map_cons, List.map_nil, List.length_cons, List.length_nil, Nat.zero_add, Nat.reduceAdd] at c1 c2 c3 c4 c5
  unfold anyCondD
  have c6 := c4 i h
  generalize condD bs 2 i h = X at *
  generalize hd : below1 bs 8 X.2.1 X.2.2 = d at *
  have hm : d = 0 ∨ d = 1 ∨ d = 2 ∨ d = 3 ∨ d = 4 ∨ d = 5 ∨ d = 6 ∨ d = 7 := by omega
  rcases hm with rfl | rfl | rfl | rfl | rfl | rfl | rfl | rfl
  all_goals
    simp -implicitDefEqProofs only [QS, QN, QG, QO, ZRS, ↓ZDS, ZRG, ↓ZDG, ZRO, ↓ZDO, anyCondN, Int.reduceToNat, dAV_D, argsR_mk, rowsD_mk, hlen, hleaf, append_leafR, hleaf2, hd, finish_cell1, finish_cell2, finCell_some, Go.Proofs.Tryz.f32, c1, c2, c3, c5, c6, plan_32_10, rows_argsR, boxes_argsR, ↓isCell_argsR, cells_argsR, cellsX_agg, cellsX_int, cellsX_bool, cellsX_str, cellsX_nils, cellsX_sl, cellsX_own, cellsX_ptr, cellsX_cptr, cellsX_undef, dedup_rowsD, nodup_rowsD, all_rowsD, all_rowsT, small_rowsD, bad_argsR, ptr_argsR, mapO_argsR, imp_argsR, lend_argsR4, shut_argsR, mem_rowsD, allmem_rowsD, after_D, freeze_ite, frzB_argsR, away_argsR, calm_argsR, opS_store, slidP_ptr, opS_call, slidM_io1, slidM_io2, away_F, away_ptr, away_int, away_bool, away_nils, away_undef, away_sl, away_agg, away_own, look_nil, evCall_io1, evCall_io2, evCall_io3, evCall_io4, finJ_1, finJ_2, finJ_3, finJ_4, finJ_int, finJ_bool, finJ_str, finJ_nils, finJ_agg, finJ_own, finJ_sl, finJ_tup, look_cons, reduceCtorEq, evCall_mutOwn, evCall_mutAgg, evGive, giveRows, ioBoxes, mutArgs, roArgs, handArg, mutSlots, isPtrB, pairs, pairss, back_nil, back_cons, backO, backE, setBoxes, importB, mode_mut, mode_give, mode_io, mode_ro, List.zip_cons_cons, List.zip_nil_left, List.zip_nil_right, ite_self, ite_true, ite_false, finish_give, finish_mut1, finish_io0, finish_io2, finish_io3, finish_ioc, finI, finC, finW_ptr, SO, SH, noref, isRef, isPtr, noPtr, isBad, AV.isUndef, SN, evCutRow, id_eq, Int.reduceBEq, Int.reduceLE, Int.reduceLT, SS, one_ne2, num_ne2, TIS, MDS, AV.isCell, Value.cells, Nat.reduceAdd, Nat.reduceEqDiff, Nat.reduceLT, Nat.reduceLeDiff, Nat.reduceMul, Nat.reduceSub, reduceIte]
    try trace_state
end Go.Proofs.YtigfcbcnfppmcaaGreat.Flat
set_option linter.unusedVariables false
set_option linter.unusedSimpArgs false
set_option maxRecDepth 10000
namespace Go.Proofs.YtigfcbcnfppmcaaGreat.Flat
def ruleN (bs : List Int) (e a : Int) (c : Cond) (i : Nat) (h : Int) : Bool → Draw Rule
  | true => (⟨e, a, (nameD bs 4 i h).1, c⟩, (nameD bs 4 i h).2.1, (nameD bs 4 i h).2.2)
  | false => (⟨e, a, -1, c⟩, i, h)
def ruleC (bs : List Int) (e a : Int) (C : Draw Cond) : Draw Rule := ruleN bs e a C.1 (belowI bs 2 C.2.1) (belowH 2 C.2.2) (below1 bs 2 C.2.1 C.2.2 == 0)
def ruleD (bs : List Int) (i : Nat) (h : Int) : Draw Rule :=
  ruleC bs (oneOf bs [1, 1, 1, 0] i h) (oneOf bs [-1, 0, 1, -1] (belowI bs ((4 : Nat) : Int) i) (belowH ((4 : Nat) : Int) h))
    (condD bs 2 (belowI bs ((4 : Nat) : Int) (belowI bs ((4 : Nat) : Int) i)) (belowH ((4 : Nat) : Int) (belowH ((4 : Nat) : Int) h)))
noncomputable def Rule.dAV (r : Rule) : AV := .agg [.int .i64 r.effect, .int .i64 r.action, .int .i64 r.object, .int .i64 r.cond.op, .int .i64 r.cond.a, .int .i64 r.cond.b, argsR 0 r.cond]
theorem r_spec_l19Rule {fl : Bool} (k : Nat) (hk : 290271069732864 + 10 ≤ k) (bs : List Int) (hb : bs.length ≤ 140737488355328) (i : Nat) (h : Int) :
    run E noExt k 87 [.ptr 0 0] [[.sl fl (bs.map byteA), .int .i64 (i : Nat), .int .i64 h]] = some ((ruleD bs i h).1.dAV, [[.sl fl (bs.map byteA), .int .i64 ((ruleD bs i h).2.1 : Nat), .int .i64 (ruleD bs i h).2.2]]) := by
  have c1 := fun n i h => r_spec_l1Once (fl := fl) (k - 1) (by omega) bs hb n i h
  have c2 := fun i h => r_spec_l1Int (fl := fl) (k - 1) (by omega) bs hb [1, 1, 1, 0] (by decide) i h
  have c3 := fun i h => r_spec_l1Int (fl := fl) (k - 1) (by omega) bs hb [-1, 0, 1, -1] (by decide) i h
  have c4 := fun i h => r_spec_l15CondZ (fl := fl) (k - 1) (by omega) bs hb i h
  have c5 := fun n i h => r_spec_l5Name (fl := fl) (k - 1) (by omega) bs hb n i h
  obtain ⟨k, rfl⟩ : ∃ j, k = j + 1 := ⟨k - 1, by omega⟩
  rw [run_succ rfl rfl, body_eq (nt := 19) (fn := Go.Proofs.Tryz.f87) (by kernel_rfl) rfl rfl rfl rfl rfl rfl rfl rfl]
  simp -implicitDefEqProofs only [Nat.add_sub_cancel, dAV_D, List.map_cons, List.map_nil, List.length_cons, List.length_nil, Nat.zero_add, Nat.reduceAdd] at c1 c2 c3 c4 c5
  unfold ruleD
  have c6 := c4 (belowI bs ((4 : Nat) : Int) (belowI bs ((4 : Nat) : Int) i)) (belowH ((4 : Nat) : Int) (belowH ((4 : Nat) : Int) h))
  generalize condD bs 2 (belowI bs ((4 : Nat) : Int) (belowI bs ((4 : Nat) : Int) i)) (belowH ((4 : Nat) : Int) (belowH ((4 : Nat) : Int) h)) = X at *
  cases hd : below1 bs 2 X.2.1 X.2.2 == 0
  all_goals
    simp -implicitDefEqProofs only [QS, QN, QG, QO, ZRS, ↓ZDS, ZRG, ↓ZDG, ZRO, ↓ZDO, Rule.dAV, ruleC, ruleN, hd, finish_cell1, finish_cell2, finCell_some, Go.Proofs.Tryz.f87, c1, c2, c3, c5, c6, rows_argsR, boxes_argsR, ↓isCell_argsR, cells_argsR, cellsX_agg, cellsX_int, cellsX_bool, cellsX_str, cellsX_nils, cellsX_sl, cellsX_own, cellsX_ptr, cellsX_cptr, cellsX_undef, dedup_rowsD, nodup_rowsD, all_rowsD, all_rowsT, small_rowsD, bad_argsR, ptr_argsR, mapO_argsR, imp_argsR, lend_argsR4, shut_argsR, mem_rowsD, allmem_rowsD, after_D, freeze_ite, frzB_argsR, away_argsR, calm_argsR, opS_store, slidP_ptr, opS_call, slidM_io1, slidM_io2, away_F, away_ptr, away_int, away_bool, away_nils, away_undef, away_sl, away_agg, away_own, look_nil, evCall_io1, evCall_io2, evCall_io3, evCall_io4, finJ_1, finJ_2, finJ_3, finJ_4, finJ_int, finJ_bool, finJ_str, finJ_nils, finJ_agg, finJ_own, finJ_sl, finJ_tup, look_cons, reduceCtorEq, evCall_mutOwn, evCall_mutAgg, evGive, giveRows, ioBoxes, mutArgs, roArgs, handArg, mutSlots, isPtrB, pairs, pairss, back_nil, back_cons, backO, backE, setBoxes, importB, mode_mut, mode_give, mode_io, mode_ro, List.zip_cons_cons, List.zip_nil_left, List.zip_nil_right, ite_self, ite_true, ite_false, finish_give, finish_mut1, finish_io0, finish_io2, finish_io3, finish_ioc, finI, finC, finW_ptr, SO, SH, noref, isRef, isPtr, noPtr, isBad, AV.isUndef, SN, evCutRow, Int.reduceToNat, id_eq, Int.reduceBEq, Int.reduceLE, Int.reduceLT, SS, one_ne2, num_ne2, TIS, MDS, AV.isCell, Value.cells, Nat.reduceAdd, Nat.reduceEqDiff, Nat.reduceLT, Nat.reduceLeDiff, Nat.reduceMul, Nat.reduceSub, reduceIte]
    try trace_state
end Go.Proofs.YtigfcbcnfppmcaaGreat.Flat
set_option linter.unusedVariables false
set_option linter.unusedSimpArgs false
set_option maxRecDepth 10000
namespace Go.Proofs.YtigfcbcnfppmcaaGreat.Flat
/-- Rows of rules: none yet, or ours. -/
def rowQ (id : Nat) (l : List Rule) : AV := match l.map (Rule.enc true) with
  | [] => .nils
  | vs => .own id false 53 7 vs
def rowsQ (id : Nat) (l : List Rule) : List Nat := (rowQ id l).rows
theorem rowQ_nil {id : Nat} : rowQ id [] = .nils := rfl
theorem rowQ_own {id : Nat} {l : List Rule} (h : l ≠ []) : rowQ id l = .own id false 53 7 (l.map (Rule.enc true)) := by cases l with | nil => exact absurd rfl h | cons => rfl
theorem rowsQ_nil {id : Nat} : rowsQ id [] = [] := rfl
theorem rowsQ_own {id : Nat} {l : List Rule} (h : l ≠ []) : rowsQ id l = [id] := by unfold rowsQ; rw [rowQ_own h]; rfl
theorem rowQ_cases (l : List Rule) : (l = [] ∧ ∀ id, rowQ id l = .nils ∧ rowsQ id l = []) ∨ (l ≠ [] ∧ ∀ id, rowQ id l = .own id false 53 7 (l.map (Rule.enc true)) ∧ rowsQ id l = [id]) := by
  rcases Classical.em (l = []) with h | h
  · exact .inl ⟨h, fun id => by subst h; exact ⟨rfl, rfl⟩⟩
  · exact .inr ⟨h, fun id => ⟨rowQ_own h, rowsQ_own h⟩⟩
section
variable {i id n nid : Nat} {l : List Rule} {x : Cond} {p : Nat → Nat → AV} {h : Bool → Nat → Bool → Nat → Nat → List AV → Nat → Nat → AV} {ids bs : List Nat} {ld : Bool} {st : St} {bx : Nat → Option (List AV)}
theorem rows_rowQ : (rowQ id l).rows = rowsQ id l := rfl
theorem boxes_rowQ : (rowQ id l).boxes = [] := by rcases rowQ_cases l with ⟨_, h⟩ | ⟨_, h⟩ <;> rw [(h _).1] <;> rfl
theorem isCell_rowQ : (rowQ id l).isCell = true := by rcases rowQ_cases l with ⟨_, h⟩ | ⟨_, h⟩ <;> rw [(h _).1] <;> rfl
theorem cells_rowQ : (rowQ id l).cells = [rowQ id l] := by rcases rowQ_cases l with ⟨_, h⟩ | ⟨_, h⟩ <;> rw [(h _).1] <;> rfl
theorem dedup_rowsQ : dedup (rowsQ id l) = rowsQ id l := by rcases rowQ_cases l with ⟨_, h⟩ | ⟨_, h⟩ <;> rw [(h _).2] <;> rfl
theorem nodup_rowsQ : nodupB (rowsQ id l) = true := by rcases rowQ_cases l with ⟨_, h⟩ | ⟨_, h⟩ <;> rw [(h _).2] <;> rfl
theorem all_rowsQ : ((rowsQ id l).all fun r => decide (r ∈ rowsQ id l)) = true := by rcases rowQ_cases l with ⟨_, h⟩ | ⟨_, h⟩ <;> rw [(h _).2] <;> simp
theorem allT_rowsQ : ((rowsQ id l).all fun _ => true) = true := by simp
theorem small_rowsQ : ((rowsQ 0 l).all fun i => decide (i < 8)) = true := by rcases rowQ_cases l with ⟨_, h⟩ | ⟨_, h⟩ <;> rw [(h _).2] <;> simp
theorem bad_rowQ : AV.any isBad (rowQ id l) = false := by rcases rowQ_cases l with ⟨_, h⟩ | ⟨_, h⟩ <;> rw [(h _).1] <;> rfl
theorem ptr_rowQ : AV.any isPtr (rowQ id l) = false := by rcases rowQ_cases l with ⟨_, h⟩ | ⟨_, h⟩ <;> rw [(h _).1] <;> rfl
theorem away_rowQ : away nid bs ld (rowQ id l) = true := by rcases rowQ_cases l with ⟨_, h⟩ | ⟨_, h⟩ <;> rw [(h _).1] <;> rfl
theorem mapO_rowQ : AV.mapO (fun i fz e sz xs => .own (idx (rowsQ id l) i) fz e sz xs) p h (fun _ => .nils) (rowQ id l) = rowQ 0 l := by
  rcases rowQ_cases l with ⟨_, h⟩ | ⟨_, h⟩
  · rw [(h id).1, (h 0).1]; rfl
  · rw [(h id).1, (h 0).1, (h id).2]; simp [AV.mapO, idx]
theorem imp_rowQ : AV.mapO (fun i fz e sz xs => .own (nid + i) fz e sz xs) p h (fun _ => .nils) (rowQ id l) = rowQ (nid + id) l := by
  rcases rowQ_cases l with ⟨_, h⟩ | ⟨_, h⟩
  · rw [(h id).1, (h _).1]; rfl
  · rw [(h id).1, (h _).1]; rfl
theorem lend_rowQ : lend bx 4 (rowQ id l) = .sl true (l.map (Rule.enc true)) := by
  rcases rowQ_cases l with ⟨h0, h⟩ | ⟨_, h⟩
  · rw [(h id).1, h0]; rfl
  · rw [(h id).1]
    simp -implicitDefEqProofs only [lend, AV.mapO, shuts_Rule]
theorem shut_rowQ : AV.mapO (fun _ _ _ _ xs => .sl true (AV.shuts xs)) p h (fun _ => .sl true []) (rowQ id l) = .sl true (l.map (Rule.enc true)) := by
  rcases rowQ_cases l with ⟨h0, h⟩ | ⟨_, h⟩
  · rw [(h id).1, h0]; rfl
  · rw [(h id).1]
    simp -implicitDefEqProofs only [AV.mapO, shuts_Rule]
theorem mem_rowsQ (h : (i = id) = False) : (i ∈ rowsQ id l) = False := by
  have h1 : i ≠ id := fun e => by rw [e] at h; simp at h
  rcases rowQ_cases l with ⟨_, h⟩ | ⟨_, h⟩ <;> rw [(h _).2] <;> simp [h1]
theorem calm_rowQ : calm st ids ld (rowQ id l) = (rowsQ id l).all fun i => !(decide (i ∈ ids)) := by
  rcases rowQ_cases l with ⟨_, h⟩ | ⟨_, h⟩ <;> rw [(h _).1, (h _).2]
  · rfl
  · simp [calm, AV.rows]
theorem allD_rowsQ (h : (id = n) = False) : ((rowsQ id l).all fun i => !(decide (i ∈ rowsD n x))) = true := by
  have h1 : id ≠ n := fun e => by rw [e] at h; simp at h
  rcases rowQ_cases l with ⟨_, h⟩ | ⟨_, h⟩ <;> rw [(h _).2]
  · rfl
  · rcases argsR_cases x with ⟨_, h⟩ | ⟨_, h⟩ <;> rw [(h _).2] <;> simp [h1]
theorem allE_rowsQ (h : (id = n) = False) : ((rowsQ id l).all fun i => !(decide (i = n))) = true := by
  have h1 : id ≠ n := fun e => by rw [e] at h; simp at h
  rcases rowQ_cases l with ⟨_, h⟩ | ⟨_, h⟩ <;> rw [(h _).2] <;> simp [h1]
theorem frz_rowQ (h2 : id ∉ ids) : AV.mapO (frzO ids) .ptr (frzE ids) (fun _ => .nils) (rowQ id l) = rowQ id l := by
  rcases rowQ_cases l with ⟨_, h⟩ | ⟨_, h⟩
  · rw [(h _).1]; rfl
  · rw [(h _).1]; simp -implicitDefEqProofs only [AV.mapO, frzO, if_neg h2]
theorem frzD_rowQ (h : (id = n) = False) : AV.mapO (frzO (rowsD n x)) .ptr (frzE (rowsD n x)) (fun _ => .nils) (rowQ id l) = rowQ id l := by
  have h1 : id ≠ n := fun e => by rw [e] at h; simp at h
  refine frz_rowQ ?_
  rcases argsR_cases x with ⟨_, h⟩ | ⟨_, h⟩ <;> rw [(h _).2] <;> simp [h1]
theorem frzB_rowQ {c : Bool} (h : (i = id) = False) : AV.mapO (frzO (frB c [i])) .ptr (frzE (frB c [i])) (fun _ => .nils) (rowQ id l) = rowQ id l := by
  have h1 : id ≠ i := fun e => by rw [e] at h; simp at h
  refine frz_rowQ ?_
  unfold frB; split <;> simp [h1]
end

theorem lenA_rowsQ {id : Nat} {l : List Rule} {r : Rule} : (rowsQ id (l ++ [r])).length = 1 := by rw [rowsQ_own (by simp)]; rfl
theorem rowsQ_len (l : List Rule) : (rowsQ 0 l).length = 0 ∨ (rowsQ 0 l).length = 1 := by rcases rowQ_cases l with ⟨_, h⟩ | ⟨_, h⟩ <;> rw [(h _).2] <;> simp
theorem freezeD_all {n : Nat} {x : Cond} {st : St} : st.freeze (rowsD n x) = st.mapO (frzO (rowsD n x)) .ptr (frzE (rowsD n x)) := freeze_all
theorem append_rowQ {t u id id2 nid : Nat} {l : List Rule} {y : Rule} {dst : Option Nat} {st : St} (htu : t = 44) (hu : u = t) (ht : st.tree = false) (hl : l.length ≤ 1000000) :
    evAppend E.P t u (rowQ id l) (.own id2 false 53 7 [.agg [.int .i64 y.effect, .int .i64 y.action, .int .i64 y.object, .int .i64 y.cond.op, .int .i64 y.cond.a, .int .i64 y.cond.b, .sl true (y.cond.args.map (Cond.enc true))]]) nid dst st = (st.mapO (scrO (rowsQ id l)) .ptr (scrE (rowsQ id l))).put dst (rowQ nid (l ++ [y])) := by
  subst hu
  subst htu
  have hr : rowQ nid (l ++ [y]) = .own nid false 53 7 (l.map (Rule.enc true) ++ [y.enc true]) := by
    rw [rowQ_own (by simp)]
    simp
  rw [hr, ← scrub_all]
  have hm1 : (l.length + 1) * 72 ≤ 140737488355328 := by omega
  have hm2 : l.length + 1 ≤ 9223372036854775807 := by omega
  have hm9 : l.length ≤ 9223372036854775806 := by omega
  have hpl : plains [.agg [.int .i64 y.effect, .int .i64 y.action, .int .i64 y.object, .int .i64 y.cond.op, .int .i64 y.cond.a, .int .i64 y.cond.b, .sl true (y.cond.args.map (Cond.enc true))]] = true := rfl
  rcases rowQ_cases l with ⟨h0, h⟩ | ⟨_, h⟩
  · rw [(h _).1, (h _).2, h0]
    simp -implicitDefEqProofs only [QS, QN, QG, QO, ZRS, ↓ZDS, ZRG, ↓ZDG, ZRO, ↓ZDO, evAppend, rowOf, hpl, enc_Rule, ht, SO, SH, noref, isRef, isPtr, noPtr, isBad, AV.isUndef, SN, evCutRow, Int.reduceToNat, id_eq, Int.reduceBEq, Int.reduceLE, Int.reduceLT, SS, one_ne2, num_ne2, TIS, MDS, AV.cells, AV.isCell, Value.cells, Nat.reduceAdd, Nat.reduceEqDiff, Nat.reduceLT, Nat.reduceLeDiff, Nat.reduceMul, Nat.reduceSub, reduceIte]
    try trace_state
  · rw [(h _).1, (h _).2]
    simp -implicitDefEqProofs only [QS, QN, QG, QO, ZRS, ↓ZDS, ZRG, ↓ZDG, ZRO, ↓ZDO, evAppend, rowOf, hpl, enc_Rule, ht, hm1, hm2, hm9, SO, SH, noref, isRef, isPtr, noPtr, isBad, AV.isUndef, SN, evCutRow, Int.reduceToNat, id_eq, Int.reduceBEq, Int.reduceLE, Int.reduceLT, SS, one_ne2, num_ne2, TIS, MDS, AV.cells, AV.isCell, Value.cells, Nat.reduceAdd, Nat.reduceEqDiff, Nat.reduceLT, Nat.reduceLeDiff, Nat.reduceMul, Nat.reduceSub, reduceIte]
    try trace_state
def ruleStep (bs : List Int) (b : List Rule × Nat × Int) : List Rule × Nat × Int := (b.1 ++ [(ruleD bs b.2.1 b.2.2).1], (ruleD bs b.2.1 b.2.2).2.1, (ruleD bs b.2.1 b.2.2).2.2)
def rulesN (bs : List Int) (b : List Rule × Nat × Int) : Nat → List Rule × Nat × Int
  | 0 => b
  | n + 1 => ruleStep bs (rulesN bs b n)
theorem rulesN_len {bs : List Int} {b : List Rule × Nat × Int} : ∀ n, (rulesN bs b n).1.length = b.1.length + n
  | 0 => rfl
  | n + 1 => by simp -implicitDefEqProofs only [rulesN, ruleStep, List.length_append, rulesN_len n, List.length_cons, List.length_nil]; omega
def rules0 (bs : List Int) (i : Nat) (h : Int) : List Rule × Nat × Int := ([], belowI bs 4 (belowI bs 5 i), belowH 4 (belowH 5 h))
def policyD (bs : List Int) (i : Nat) (h : Int) : Draw Policy :=
  (⟨below1 bs 5 i h, (rulesN bs (rules0 bs i h) (1 + below1 bs 4 (belowI bs 5 i) (belowH 5 h)).toNat).1⟩, (rulesN bs (rules0 bs i h) (1 + below1 bs 4 (belowI bs 5 i) (belowH 5 h)).toNat).2.1, (rulesN bs (rules0 bs i h) (1 + below1 bs 4 (belowI bs 5 i) (belowH 5 h)).toNat).2.2)
theorem policyD_len {bs : List Int} {i : Nat} {h : Int} : (policyD bs i h).1.rules.length ≤ 4 := by
  have := below_lt bs (n := 4) (by omega) (by omega) (belowI bs 5 i) (belowH 5 h)
  unfold policyD
  simp -implicitDefEqProofs only [rulesN_len, rules0, List.length_nil]
  omega
theorem r_spec_l19Policy {fl : Bool} (k : Nat) (hk : 290271069732864 + 12 ≤ k) (bs : List Int) (hb : bs.length ≤ 140737488355328) (i : Nat) (h : Int) :
    run E noExt k 48 [.ptr 0 0] [[.sl fl (bs.map byteA), .int .i64 (i : Nat), .int .i64 h]] = some (.agg [.int .i64 (policyD bs i h).1.version, rowQ 0 (policyD bs i h).1.rules], [[.sl fl (bs.map byteA), .int .i64 ((policyD bs i h).2.1 : Nat), .int .i64 (policyD bs i h).2.2]]) := by
  have c1 := fun n i h => r_spec_l1Below (fl := fl) (k - 1) (by omega) bs hb n i h
  have c2 := fun i h => r_spec_l19Rule (fl := fl) (k - 1) (by omega) bs hb i h
  have hlt := below_lt bs (n := 4) (by omega) (by omega) (belowI bs 5 i) (belowH 5 h)
  obtain ⟨k, rfl⟩ : ∃ j, k = j + 1 := ⟨k - 1, by omega⟩
  rw [run_succ rfl rfl, body_eq (nt := 23) (fn := Go.Proofs.Tryz.f48) (by kernel_rfl) rfl rfl rfl rfl rfl rfl rfl rfl]
  simp -implicitDefEqProofs only [Nat.add_sub_cancel, Rule.dAV] at c1 c2
  unfold policyD
  generalize hd : below1 bs 4 (belowI bs 5 i) (belowH 5 h) = d at *
  obtain ⟨m, hm⟩ : ∃ m : Nat, 1 + d = (m : Int) := ⟨(1 + d).toNat, by omega⟩
  have hw0 : IntKind.i64.wrap (1 + d) = (m : Int) := by rw [IntWalk.i64_in _ (by omega)]; exact hm
  simp -implicitDefEqProofs only [hm, Int.toNat_natCast]
  simp -implicitDefEqProofs only [QS, QN, QG, QO, ZRS, ↓ZDS, ZRG, ↓ZDG, ZRO, ↓ZDO, rowQ_nil, Go.Proofs.Tryz.f48, c1, hd, hw0, rows_argsR, boxes_argsR, ↓isCell_argsR, cells_argsR, cellsX_agg, cellsX_int, cellsX_bool, cellsX_str, cellsX_nils, cellsX_sl, cellsX_own, cellsX_ptr, cellsX_cptr, cellsX_undef, dedup_rowsD, nodup_rowsD, all_rowsD, all_rowsT, small_rowsD, bad_argsR, ptr_argsR, mapO_argsR, imp_argsR, lend_argsR4, shut_argsR, mem_rowsD, allmem_rowsD, after_D, freeze_ite, frzB_argsR, away_argsR, calm_argsR, opS_store, slidP_ptr, opS_call, slidM_io1, slidM_io2, away_F, away_ptr, away_int, away_bool, away_nils, away_undef, away_sl, away_agg, away_own, look_nil, evCall_io1, evCall_io2, evCall_io3, evCall_io4, finJ_1, finJ_2, finJ_3, finJ_4, finJ_int, finJ_bool, finJ_str, finJ_nils, finJ_agg, finJ_own, finJ_sl, finJ_tup, look_cons, reduceCtorEq, evCall_mutOwn, evCall_mutAgg, evGive, giveRows, ioBoxes, mutArgs, roArgs, handArg, mutSlots, isPtrB, pairs, pairss, back_nil, back_cons, backO, backE, setBoxes, importB, mode_mut, mode_give, mode_io, mode_ro, List.zip_cons_cons, List.zip_nil_left, List.zip_nil_right, ite_self, ite_true, ite_false, finish_give, finish_mut1, finish_io0, finish_io2, finish_io3, finish_ioc, finI, finC, finW_ptr, SO, SH, evAppend, rowOf, noref, isRef, isPtr, noPtr, isBad, AV.isUndef, SN, evCutRow, Int.reduceToNat, id_eq, Int.reduceBEq, Int.reduceLE, Int.reduceLT, SS, one_ne2, num_ne2, TIS, MDS, AV.cells, AV.isCell, Value.cells, Nat.reduceAdd, Nat.reduceEqDiff, Nat.reduceLT, Nat.reduceLeDiff, Nat.reduceMul, Nat.reduceSub, reduceIte]
  rw [ev_loop]
  refine Eq.trans (loop_list (Q := fun (_ : Unit) x => thenEnd E.P _ _ 1 (thenEv E _ _ _ _ _ (outOf 0 x)) = some (.agg [.int .i64 (below1 bs 5 i h), rowQ 0 (rulesN bs (rules0 bs i h) m).1], [[.sl fl (bs.map byteA), .int .i64 ((rulesN bs (rules0 bs i h) m).2.1 : Nat), .int .i64 (rulesN bs (rules0 bs i h) m).2.2]])) (List.range m) (fun _ _ _ => .inr ()) id
    (fun j _ => { sl := [(0, .ptr 0 0), (2, .ptr 1 0), (3, .ptr 2 0), (4, .int .i64 (((m - j : Nat) : Int)))], bx := [(0, [.sl fl (bs.map byteA), .int .i64 ((rulesN bs (rules0 bs i h) j).2.1 : Nat), .int .i64 (rulesN bs (rules0 bs i h) j).2.2]), (1, [.int .i64 0, .nils]), (2, [.int .i64 (below1 bs 5 i h), rowQ 0 (rulesN bs (rules0 bs i h) j).1])], nx := (rowsQ 0 (rulesN bs (rules0 bs i h) j).1).length + 3, nt := 23 }) (fun _ _ => True) () ?_ ?_ (by simp; omega) trivial ?_) ?_
  · intro _ _
    rw [List.length_range, Nat.sub_self]
    have h0 : ¬ (0 : Int) < ((0 : Nat) : Int) := by omega
    simp -implicitDefEqProofs only [QS, QN, QG, QO, ZRS, ↓ZDS, ZRG, ↓ZDG, ZRO, ↓ZDO, h0, finish_cell1, finish_cell2, finCell_some, rows_rowQ, boxes_rowQ, ↓isCell_rowQ, cells_rowQ, dedup_rowsQ, nodup_rowsQ, all_rowsQ, allT_rowsQ, small_rowsQ, bad_rowQ, ptr_rowQ, away_rowQ, mapO_rowQ, imp_rowQ, lend_rowQ, shut_rowQ, mem_rowsQ, calm_rowQ, allD_rowsQ, allE_rowsQ, frzD_rowQ, frzB_rowQ, freezeD_all, rows_argsR, boxes_argsR, ↓isCell_argsR, cells_argsR, cellsX_agg, cellsX_int, cellsX_bool, cellsX_str, cellsX_nils, cellsX_sl, cellsX_own, cellsX_ptr, cellsX_cptr, cellsX_undef, dedup_rowsD, nodup_rowsD, all_rowsD, all_rowsT, small_rowsD, bad_argsR, ptr_argsR, mapO_argsR, imp_argsR, lend_argsR4, shut_argsR, mem_rowsD, allmem_rowsD, after_D, freeze_ite, frzB_argsR, away_argsR, calm_argsR, opS_store, slidP_ptr, opS_call, slidM_io1, slidM_io2, away_F, away_ptr, away_int, away_bool, away_nils, away_undef, away_sl, away_agg, away_own, look_nil, evCall_io1, evCall_io2, evCall_io3, evCall_io4, finJ_1, finJ_2, finJ_3, finJ_4, finJ_int, finJ_bool, finJ_str, finJ_nils, finJ_agg, finJ_own, finJ_sl, finJ_tup, look_cons, reduceCtorEq, evCall_mutOwn, evCall_mutAgg, evGive, giveRows, ioBoxes, mutArgs, roArgs, handArg, mutSlots, isPtrB, pairs, pairss, back_nil, back_cons, backO, backE, setBoxes, importB, mode_mut, mode_give, mode_io, mode_ro, List.zip_cons_cons, List.zip_nil_left, List.zip_nil_right, ite_self, ite_true, ite_false, finish_give, finish_mut1, finish_io0, finish_io2, finish_io3, finish_ioc, finI, finC, finW_ptr, SO, SH, noref, isRef, isPtr, noPtr, isBad, AV.isUndef, leaf_some, isNormal, ifEv_bool, gate_bool, gateP_bool, gateQ_bool, pick_bool, SN, evCutRow, Int.reduceToNat, id_eq, Int.reduceBEq, Int.reduceLE, Int.reduceLT, SS, one_ne2, num_ne2, TIS, MDS, AV.isCell, Value.cells, Nat.reduceAdd, Nat.reduceEqDiff, Nat.reduceLT, Nat.reduceLeDiff, Nat.reduceMul, Nat.reduceSub, reduceIte]
    try trace_state
  · intro pre z r _ hs' _
    have hpl : pre.length < m := by have := congrArg List.length hs'; simp at this; omega
    clear hs'
    have hp0 : (0 : Int) < ((m - pre.length : Nat) : Int) := by omega
    have hw1 : IntKind.i64.wrap (((m - pre.length : Nat) : Int) - 1) = ((m - (pre.length + 1) : Nat) : Int) := by rw [IntWalk.i64_in _ (by omega)]; omega
    have hln := rulesN_len (bs := bs) (b := rules0 bs i h) pre.length
    simp -implicitDefEqProofs only [rules0, List.length_nil, Nat.zero_add] at hln
    simp -implicitDefEqProofs only [rulesN]
    have hrl : (rulesN bs (rules0 bs i h) pre.length).1.length ≤ 1000000 := by rw [rulesN_len]; simp -implicitDefEqProofs only [rules0, List.length_nil]; omega
    generalize rulesN bs (rules0 bs i h) pre.length = b at *
    rcases rowsQ_len b.1 with hL | hL
    all_goals
      simp -implicitDefEqProofs only [QS, QN, QG, QO, ZRS, ↓ZDS, ZRG, ↓ZDG, ZRO, ↓ZDO, hL, lenA_rowsQ, hp0, hw1, c1, c2, hrl, ruleStep, append_rowQ, plan_48_5, rows_rowQ, boxes_rowQ, ↓isCell_rowQ, cells_rowQ, dedup_rowsQ, nodup_rowsQ, all_rowsQ, allT_rowsQ, small_rowsQ, bad_rowQ, ptr_rowQ, away_rowQ, mapO_rowQ, imp_rowQ, lend_rowQ, shut_rowQ, mem_rowsQ, calm_rowQ, allD_rowsQ, allE_rowsQ, frzD_rowQ, frzB_rowQ, freezeD_all, rows_argsR, boxes_argsR, ↓isCell_argsR, cells_argsR, cellsX_agg, cellsX_int, cellsX_bool, cellsX_str, cellsX_nils, cellsX_sl, cellsX_own, cellsX_ptr, cellsX_cptr, cellsX_undef, dedup_rowsD, nodup_rowsD, all_rowsD, all_rowsT, small_rowsD, bad_argsR, ptr_argsR, mapO_argsR, imp_argsR, lend_argsR4, shut_argsR, mem_rowsD, allmem_rowsD, after_D, freeze_ite, frzB_argsR, away_argsR, calm_argsR, opS_store, slidP_ptr, opS_call, slidM_io1, slidM_io2, away_F, away_ptr, away_int, away_bool, away_nils, away_undef, away_sl, away_agg, away_own, look_nil, evCall_io1, evCall_io2, evCall_io3, evCall_io4, finJ_1, finJ_2, finJ_3, finJ_4, finJ_int, finJ_bool, finJ_str, finJ_nils, finJ_agg, finJ_own, finJ_sl, finJ_tup, look_cons, reduceCtorEq, evCall_mutOwn, evCall_mutAgg, evGive, giveRows, ioBoxes, mutArgs, roArgs, handArg, mutSlots, isPtrB, pairs, pairss, back_nil, back_cons, backO, backE, setBoxes, importB, mode_mut, mode_give, mode_io, mode_ro, List.zip_cons_cons, List.zip_nil_left, List.zip_nil_right, ite_self, ite_true, ite_false, finish_give, finish_mut1, finish_io0, finish_io2, finish_io3, finish_ioc, finI, finC, finW_ptr, SO, SH, noref, isRef, isPtr, noPtr, isBad, AV.isUndef, keep_48_3, leaf_some, isNormal, ifEv_bool, gate_bool, gateP_bool, gateQ_bool, pick_bool, SN, evCutRow, Int.reduceToNat, id_eq, Int.reduceBEq, Int.reduceLE, Int.reduceLT, SS, one_ne2, num_ne2, TIS, MDS, AV.isCell, Value.cells, Nat.reduceAdd, Nat.reduceEqDiff, Nat.reduceLT, Nat.reduceLeDiff, Nat.reduceMul, Nat.reduceSub, reduceIte]
      try trace_state
  · simp -implicitDefEqProofs only [firstRegion]
    rw [keep_48_3]
    simp -implicitDefEqProofs only [QS, QN, QG, QO, ZRS, ↓ZDS, ZRG, ↓ZDG, ZRO, ↓ZDO, rulesN, rules0, rowQ_nil, rowsQ_nil, Nat.sub_zero, SN, evCutRow, Int.reduceToNat, id_eq, Int.reduceBEq, Int.reduceLE, Int.reduceLT, SO, SH, evAppend, rowOf, noref, isRef, isPtr, noPtr, isBad, AV.isUndef, SS, one_ne2, num_ne2, TIS, MDS, AV.cells, AV.isCell, Value.cells, Nat.reduceAdd, Nat.reduceEqDiff, Nat.reduceLT, Nat.reduceLeDiff, Nat.reduceMul, Nat.reduceSub, reduceIte]
  · rfl
end Go.Proofs.YtigfcbcnfppmcaaGreat.Flat
