/-
The draws: policies.
-/
import Derived.Test.YtaojmienjikfbaaGreatDoorEqDV
set_option linter.unusedVariables false
set_option linter.unusedSimpArgs false
set_option maxRecDepth 10000
namespace Go.Proofs.YtaojmienjikfbaaGreatDoor.Flat
def rowQ (id : Nat) (l : List Rule) : AV := match l.map (Rule.enc true) with
  | [] => .nils
  | vs => .own id false 63 7 vs
def rowsQ (id : Nat) (l : List Rule) : List Nat := (rowQ id l).rows
theorem rowQ_nil {id : Nat} : rowQ id [] = .nils := rfl
theorem rowQ_own {id : Nat} {l : List Rule} (h : l ≠ []) : rowQ id l = .own id false 63 7 (l.map (Rule.enc true)) := by cases l with | nil => exact absurd rfl h | cons => rfl
theorem rowsQ_nil {id : Nat} : rowsQ id [] = [] := rfl
theorem rowsQ_own {id : Nat} {l : List Rule} (h : l ≠ []) : rowsQ id l = [id] := by unfold rowsQ; rw [rowQ_own h]; rfl
theorem rowQ_cases (l : List Rule) : (l = [] ∧ ∀ id, rowQ id l = .nils ∧ rowsQ id l = []) ∨ (l ≠ [] ∧ ∀ id, rowQ id l = .own id false 63 7 (l.map (Rule.enc true)) ∧ rowsQ id l = [id]) := by
  rcases Classical.em (l = []) with h | h
  · exact .inl ⟨h, fun id => by subst h; exact ⟨rfl, rfl⟩⟩
  · exact .inr ⟨h, fun id => ⟨rowQ_own h, rowsQ_own h⟩⟩
section
variable {i id n nid : Nat} {l : List Rule} {x : Cond} {p : Nat → Nat → AV} {h : Bool → Nat → Bool → Nat → Nat → List AV → Nat → Nat → AV} {ids bs : List Nat} {ld : Bool} {st : St} {bx : Nat → Option (List AV)}
theorem rows_rowQ : (rowQ id l).rows = rowsQ id l := rfl
theorem boxes_rowQ : (rowQ id l).boxes = [] := by rcases rowQ_cases l with ⟨_, h⟩ | ⟨_, h⟩ <;> rw [(h _).1] <;> rfl
theorem isCell_rowQ : (rowQ id l).isCell = true := by rcases rowQ_cases l with ⟨_, h⟩ | ⟨_, h⟩ <;> rw [(h _).1] <;> rfl
theorem cells_rowQ : (rowQ id l).cells = [rowQ id l] := by rcases rowQ_cases l with ⟨_, h⟩ | ⟨_, h⟩ <;> rw [(h _).1] <;> rfl
theorem dedup_rowsQ : dedup (rowsQ id l) = rowsQ id l := by rcases rowQ_cases l with ⟨_, h⟩ | ⟨_, h⟩ <;> rw [(h _).2] <;> rfl
theorem nodup_rowsQ : nodupB (rowsQ id l) = true := by rcases rowQ_cases l with ⟨_, h⟩ | ⟨_, h⟩ <;> rw [(h _).2] <;> rfl
theorem all_rowsQ : ((rowsQ id l).all fun r => decide (r ∈ rowsQ id l)) = true := by rcases rowQ_cases l with ⟨_, h⟩ | ⟨_, h⟩ <;> rw [(h _).2] <;> simp
theorem allT_rowsQ : ((rowsQ id l).all fun _ => true) = true := by simp
theorem small_rowsQ : ((rowsQ 0 l).all fun i => decide (i < 8)) = true := by rcases rowQ_cases l with ⟨_, h⟩ | ⟨_, h⟩ <;> rw [(h _).2] <;> simp
theorem bad_rowQ : AV.any isBad (rowQ id l) = false := by rcases rowQ_cases l with ⟨_, h⟩ | ⟨_, h⟩ <;> rw [(h _).1] <;> rfl
theorem ptr_rowQ : AV.any isPtr (rowQ id l) = false := by rcases rowQ_cases l with ⟨_, h⟩ | ⟨_, h⟩ <;> rw [(h _).1] <;> rfl
theorem away_rowQ : away nid bs ld (rowQ id l) = true := by rcases rowQ_cases l with ⟨_, h⟩ | ⟨_, h⟩ <;> rw [(h _).1] <;> rfl
theorem mapO_rowQ : AV.mapO (fun i fz e sz xs => .own (idx (rowsQ id l) i) fz e sz xs) p h (fun _ => .nils) (rowQ id l) = rowQ 0 l := by
  rcases rowQ_cases l with ⟨_, h⟩ | ⟨_, h⟩
  · rw [(h id).1, (h 0).1]; rfl
  · rw [(h id).1, (h 0).1, (h id).2]; simp [AV.mapO, idx]
theorem imp_rowQ : AV.mapO (fun i fz e sz xs => .own (nid + i) fz e sz xs) p h (fun _ => .nils) (rowQ id l) = rowQ (nid + id) l := by
  rcases rowQ_cases l with ⟨_, h⟩ | ⟨_, h⟩
  · rw [(h id).1, (h _).1]; rfl
  · rw [(h id).1, (h _).1]; rfl
theorem lend_rowQ : lend bx 4 (rowQ id l) = .sl true (l.map (Rule.enc true)) := by
  rcases rowQ_cases l with ⟨h0, h⟩ | ⟨_, h⟩
  · rw [(h id).1, h0]; rfl
  · rw [(h id).1]
    simp -implicitDefEqProofs only [lend, AV.mapO, shuts_Rule]
theorem shut_rowQ : AV.mapO (fun _ _ _ _ xs => .sl true (AV.shuts xs)) p h (fun _ => .sl true []) (rowQ id l) = .sl true (l.map (Rule.enc true)) := by
  rcases rowQ_cases l with ⟨h0, h⟩ | ⟨_, h⟩
  · rw [(h id).1, h0]; rfl
  · rw [(h id).1]
    simp -implicitDefEqProofs only [AV.mapO, shuts_Rule]
theorem mem_rowsQ (h : (i = id) = False) : (i ∈ rowsQ id l) = False := by
  have h1 : i ≠ id := fun e => by rw [e] at h; simp at h
  rcases rowQ_cases l with ⟨_, h⟩ | ⟨_, h⟩ <;> rw [(h _).2] <;> simp [h1]
theorem calm_rowQ : calm st ids ld (rowQ id l) = (rowsQ id l).all fun i => !(decide (i ∈ ids)) := by
  rcases rowQ_cases l with ⟨_, h⟩ | ⟨_, h⟩ <;> rw [(h _).1, (h _).2]
  · rfl
  · simp [calm, AV.rows]
theorem allD_rowsQ (h : (id = n) = False) : ((rowsQ id l).all fun i => !(decide (i ∈ rowsD n x))) = true := by
  have h1 : id ≠ n := fun e => by rw [e] at h; simp at h
  rcases rowQ_cases l with ⟨_, h⟩ | ⟨_, h⟩ <;> rw [(h _).2]
  · rfl
  · rcases argsR_cases x with ⟨_, h⟩ | ⟨_, h⟩ <;> rw [(h _).2] <;> simp [h1]
theorem allE_rowsQ (h : (id = n) = False) : ((rowsQ id l).all fun i => !(decide (i = n))) = true := by
  have h1 : id ≠ n := fun e => by rw [e] at h; simp at h
  rcases rowQ_cases l with ⟨_, h⟩ | ⟨_, h⟩ <;> rw [(h _).2] <;> simp [h1]
theorem frz_rowQ (h2 : id ∉ ids) : AV.mapO (frzO ids) .ptr (frzE ids) (fun _ => .nils) (rowQ id l) = rowQ id l := by
  rcases rowQ_cases l with ⟨_, h⟩ | ⟨_, h⟩
  · rw [(h _).1]; rfl
  · rw [(h _).1]; simp -implicitDefEqProofs only [AV.mapO, frzO, if_neg h2]
theorem frzD_rowQ (h : (id = n) = False) : AV.mapO (frzO (rowsD n x)) .ptr (frzE (rowsD n x)) (fun _ => .nils) (rowQ id l) = rowQ id l := by
  have h1 : id ≠ n := fun e => by rw [e] at h; simp at h
  refine frz_rowQ ?_
  rcases argsR_cases x with ⟨_, h⟩ | ⟨_, h⟩ <;> rw [(h _).2] <;> simp [h1]
theorem frzB_rowQ {c : Bool} (h : (i = id) = False) : AV.mapO (frzO (frB c [i])) .ptr (frzE (frB c [i])) (fun _ => .nils) (rowQ id l) = rowQ id l := by
  have h1 : id ≠ i := fun e => by rw [e] at h; simp at h
  refine frz_rowQ ?_
  unfold frB; split <;> simp [h1]
end
theorem lenA_rowsQ {id : Nat} {l : List Rule} {r : Rule} : (rowsQ id (l ++ [r])).length = 1 := by rw [rowsQ_own (by simp)]; rfl
theorem rowsQ_len (l : List Rule) : (rowsQ 0 l).length = 0 ∨ (rowsQ 0 l).length = 1 := by rcases rowQ_cases l with ⟨_, h⟩ | ⟨_, h⟩ <;> rw [(h _).2] <;> simp
theorem freezeD_all {n : Nat} {x : Cond} {st : St} : st.freeze (rowsD n x) = st.mapO (frzO (rowsD n x)) .ptr (frzE (rowsD n x)) := freeze_all
theorem append_rowQ {t u id id2 nid : Nat} {l : List Rule} {y : Rule} {dst : Option Nat} {st : St} (htu : t = 37) (hu : u = t) (ht : st.tree = false) (hl : l.length ≤ 1000000) :
    evAppend E.P t u (rowQ id l) (.own id2 false 63 7 [.agg [.int .i64 y.effect, .int .i64 y.action, .int .i64 y.object, .int .i64 y.cond.op, .int .i64 y.cond.a, .int .i64 y.cond.b, .sl true (y.cond.args.map (Cond.enc true))]]) nid dst st = (st.mapO (scrO (rowsQ id l)) .ptr (scrE (rowsQ id l))).put dst (rowQ nid (l ++ [y])) := by
  subst hu
  subst htu
  have hr : rowQ nid (l ++ [y]) = .own nid false 63 7 (l.map (Rule.enc true) ++ [y.enc true]) := by
    rw [rowQ_own (by simp)]
    simp
  rw [hr, ← scrub_all]
  have hm1 : (l.length + 1) * 72 ≤ 140737488355328 := by omega
  have hm2 : l.length + 1 ≤ 9223372036854775807 := by omega
  have hm9 : l.length ≤ 9223372036854775806 := by omega
  have hpl : plains [.agg [.int .i64 y.effect, .int .i64 y.action, .int .i64 y.object, .int .i64 y.cond.op, .int .i64 y.cond.a, .int .i64 y.cond.b, .sl true (y.cond.args.map (Cond.enc true))]] = true := rfl
  rcases rowQ_cases l with ⟨h0, h⟩ | ⟨_, h⟩
  · rw [(h _).1, (h _).2, h0]
    simp -implicitDefEqProofs only [W3, ↓D3, ↓DA, ↓DP, ↓DC, hpl, enc_Rule, ht, SH, Int.reduceToNat, id_eq, Int.reduceBEq, Int.reduceLE, Int.reduceLT, Nat.reduceAdd, Nat.reduceEqDiff, Nat.reduceLT, Nat.reduceLeDiff, Nat.reduceMul, Nat.reduceSub, reduceIte]
    try trace_state
  · rw [(h _).1, (h _).2]
    simp -implicitDefEqProofs only [W3, ↓D3, ↓DA, ↓DP, ↓DC, hpl, enc_Rule, ht, hm1, hm2, hm9, SH, Int.reduceToNat, id_eq, Int.reduceBEq, Int.reduceLE, Int.reduceLT, Nat.reduceAdd, Nat.reduceEqDiff, Nat.reduceLT, Nat.reduceLeDiff, Nat.reduceMul, Nat.reduceSub, reduceIte]
    try trace_state
def ruleStep (bs : List Int) (b : List Rule × Nat × Int) : List Rule × Nat × Int := (b.1 ++ [(ruleD bs b.2.1 b.2.2).1], (ruleD bs b.2.1 b.2.2).2.1, (ruleD bs b.2.1 b.2.2).2.2)
def rulesN (bs : List Int) (b : List Rule × Nat × Int) : Nat → List Rule × Nat × Int
  | 0 => b
  | n + 1 => ruleStep bs (rulesN bs b n)
theorem rulesN_len {bs : List Int} {b : List Rule × Nat × Int} : ∀ n, (rulesN bs b n).1.length = b.1.length + n
  | 0 => rfl
  | n + 1 => by simp -implicitDefEqProofs only [rulesN, ruleStep, List.length_append, rulesN_len n, List.length_cons, List.length_nil]; omega
def rules0 (bs : List Int) (i : Nat) (h : Int) : List Rule × Nat × Int := ([], belowI bs 4 (belowI bs 5 i), belowH 4 (belowH 5 h))
def policyD (bs : List Int) (i : Nat) (h : Int) : Draw Policy :=
  (⟨below1 bs 5 i h, (rulesN bs (rules0 bs i h) (1 + below1 bs 4 (belowI bs 5 i) (belowH 5 h)).toNat).1⟩, (rulesN bs (rules0 bs i h) (1 + below1 bs 4 (belowI bs 5 i) (belowH 5 h)).toNat).2.1, (rulesN bs (rules0 bs i h) (1 + below1 bs 4 (belowI bs 5 i) (belowH 5 h)).toNat).2.2)
theorem policyD_len {bs : List Int} {i : Nat} {h : Int} : (policyD bs i h).1.rules.length ≤ 4 := by
  have := below_lt bs (n := 4) (by omega) (by omega) (belowI bs 5 i) (belowH 5 h)
  unfold policyD
  simp -implicitDefEqProofs only [rulesN_len, rules0, List.length_nil]
  omega
theorem r_spec_l19Policy {fl : Bool} (k : Nat) (hk : 290271069732864 + 12 ≤ k) (bs : List Int) (hb : bs.length ≤ 140737488355328) (i : Nat) (h : Int) :
    run E noExt k 63 [.ptr 0 0] [[.sl fl (bs.map byteA), .int .i64 (i : Nat), .int .i64 h]] = some (.agg [.int .i64 (policyD bs i h).1.version, rowQ 0 (policyD bs i h).1.rules], [[.sl fl (bs.map byteA), .int .i64 ((policyD bs i h).2.1 : Nat), .int .i64 (policyD bs i h).2.2]]) := by
  have c1 := fun n i h => r_spec_l1Below (fl := fl) (k - 1) (by omega) bs hb n i h
  have c2 := fun i h => r_spec_l19Rule (fl := fl) (k - 1) (by omega) bs hb i h
  have hlt := below_lt bs (n := 4) (by omega) (by omega) (belowI bs 5 i) (belowH 5 h)
  obtain ⟨k, rfl⟩ : ∃ j, k = j + 1 := ⟨k - 1, by omega⟩
  rw [run_succ rfl rfl, body_eq (nt := 23) (fn := Go.Proofs.Tryz.f63) (by kernel_rfl) rfl rfl rfl rfl rfl rfl rfl rfl]
  simp -implicitDefEqProofs only [Nat.add_sub_cancel, Rule.dAV] at c1 c2
  unfold policyD
  generalize hd : below1 bs 4 (belowI bs 5 i) (belowH 5 h) = d at *
  obtain ⟨m, hm⟩ : ∃ m : Nat, 1 + d = (m : Int) := ⟨(1 + d).toNat, by omega⟩
  have hw0 : IntKind.i64.wrap (1 + d) = (m : Int) := by rw [IntWalk.i64_in _ (by omega)]; exact hm
  simp -implicitDefEqProofs only [hm, Int.toNat_natCast]
  simp -implicitDefEqProofs only [W3, ↓D3, ↓DA, rowQ_nil, Go.Proofs.Tryz.f63, c1, hd, hw0, rows_argsR, boxes_argsR, ↓isCell_argsR, cells_argsR, cellsX_agg, cellsX_int, cellsX_bool, cellsX_str, cellsX_nils, cellsX_sl, cellsX_own, cellsX_ptr, cellsX_cptr, cellsX_undef, dedup_rowsD, nodup_rowsD, all_rowsD, all_rowsT, small_rowsD, bad_argsR, ptr_argsR, mapO_argsR, imp_argsR, lend_argsR4, shut_argsR, mem_rowsD, allmem_rowsD, after_D, freeze_ite, frzB_argsR, away_argsR, calm_argsR, opS_store, slidP_ptr, opS_call, slidM_io1, slidM_io2, away_F, away_ptr, away_int, away_bool, away_nils, away_undef, away_sl, away_agg, away_own, look_nil, evCall_io1, evCall_io2, evCall_io3, evCall_io4, finJ_1, finJ_2, finJ_3, finJ_4, finJ_int, finJ_bool, finJ_str, finJ_nils, finJ_agg, finJ_own, finJ_sl, finJ_tup, look_cons, reduceCtorEq, evCall_mutOwn, evCall_mutAgg, evGive, giveRows, ioBoxes, mutArgs, roArgs, handArg, mutSlots, isPtrB, pairs, pairss, back_nil, back_cons, backO, backE, setBoxes, importB, mode_mut, mode_give, mode_io, mode_ro, List.zip_cons_cons, List.zip_nil_left, List.zip_nil_right, ite_self, ite_true, ite_false, finish_give, finish_mut1, finish_io0, finish_io2, finish_io3, finish_ioc, finI, finC, finW_ptr, SH, noref, isRef, isPtr, noPtr, isBad, AV.isUndef, Int.reduceToNat, id_eq, Int.reduceBEq, Int.reduceLE, Int.reduceLT, AV.cells, AV.isCell, Value.cells, Nat.reduceAdd, Nat.reduceEqDiff, Nat.reduceLT, Nat.reduceLeDiff, Nat.reduceMul, Nat.reduceSub, reduceIte]
  rw [ev_loop]
  refine Eq.trans (loop_list (Q := fun (_ : Unit) x => thenEnd E.P _ _ 1 (thenEv E _ _ _ _ _ (outOf 0 x)) = some (.agg [.int .i64 (below1 bs 5 i h), rowQ 0 (rulesN bs (rules0 bs i h) m).1], [[.sl fl (bs.map byteA), .int .i64 ((rulesN bs (rules0 bs i h) m).2.1 : Nat), .int .i64 (rulesN bs (rules0 bs i h) m).2.2]])) (List.range m) (fun _ _ _ => .inr ()) id
    (fun j _ => { sl := [(0, .ptr 0 0), (2, .ptr 1 0), (3, .ptr 2 0), (4, .int .i64 (((m - j : Nat) : Int)))], bx := [(0, [.sl fl (bs.map byteA), .int .i64 ((rulesN bs (rules0 bs i h) j).2.1 : Nat), .int .i64 (rulesN bs (rules0 bs i h) j).2.2]), (1, [.int .i64 0, .nils]), (2, [.int .i64 (below1 bs 5 i h), rowQ 0 (rulesN bs (rules0 bs i h) j).1])], nx := (rowsQ 0 (rulesN bs (rules0 bs i h) j).1).length + 3, nt := 23 }) (fun _ _ => True) () ?_ ?_ (by simp; omega) trivial ?_) ?_
  · intro _ _
    rw [List.length_range, Nat.sub_self]
    have h0 : ¬ (0 : Int) < ((0 : Nat) : Int) := by omega
    simp -implicitDefEqProofs only [W3, ↓D3, QX, h0, finish_cell1, finish_cell2, finCell_some, rows_rowQ, boxes_rowQ, ↓isCell_rowQ, cells_rowQ, dedup_rowsQ, nodup_rowsQ, all_rowsQ, allT_rowsQ, small_rowsQ, bad_rowQ, ptr_rowQ, away_rowQ, mapO_rowQ, imp_rowQ, lend_rowQ, shut_rowQ, mem_rowsQ, calm_rowQ, allD_rowsQ, allE_rowsQ, frzD_rowQ, frzB_rowQ, freezeD_all, rows_argsR, boxes_argsR, ↓isCell_argsR, cells_argsR, cellsX_agg, cellsX_int, cellsX_bool, cellsX_str, cellsX_nils, cellsX_sl, cellsX_own, cellsX_ptr, cellsX_cptr, cellsX_undef, dedup_rowsD, nodup_rowsD, all_rowsD, all_rowsT, small_rowsD, bad_argsR, ptr_argsR, mapO_argsR, imp_argsR, lend_argsR4, shut_argsR, mem_rowsD, allmem_rowsD, after_D, freeze_ite, frzB_argsR, away_argsR, calm_argsR, opS_store, slidP_ptr, opS_call, slidM_io1, slidM_io2, away_F, away_ptr, away_int, away_bool, away_nils, away_undef, away_sl, away_agg, away_own, look_nil, evCall_io1, evCall_io2, evCall_io3, evCall_io4, finJ_1, finJ_2, finJ_3, finJ_4, finJ_int, finJ_bool, finJ_str, finJ_nils, finJ_agg, finJ_own, finJ_sl, finJ_tup, look_cons, reduceCtorEq, evCall_mutOwn, evCall_mutAgg, evGive, giveRows, ioBoxes, mutArgs, roArgs, handArg, mutSlots, isPtrB, pairs, pairss, back_nil, back_cons, backO, backE, setBoxes, importB, mode_mut, mode_give, mode_io, mode_ro, List.zip_cons_cons, List.zip_nil_left, List.zip_nil_right, ite_self, ite_true, ite_false, finish_give, finish_mut1, finish_io0, finish_io2, finish_io3, finish_ioc, finI, finC, finW_ptr, SH, noref, isRef, isPtr, noPtr, isBad, AV.isUndef, leaf_some, isNormal, Int.reduceToNat, id_eq, Int.reduceBEq, Int.reduceLE, Int.reduceLT, AV.isCell, Value.cells, Nat.reduceAdd, Nat.reduceEqDiff, Nat.reduceLT, Nat.reduceLeDiff, Nat.reduceMul, Nat.reduceSub, reduceIte]
    try trace_state
  · intro pre z r _ hs' _
    have hpl : pre.length < m := by have := congrArg List.length hs'; simp at this; omega
    clear hs'
    have hp0 : (0 : Int) < ((m - pre.length : Nat) : Int) := by omega
    have hw1 : IntKind.i64.wrap (((m - pre.length : Nat) : Int) - 1) = ((m - (pre.length + 1) : Nat) : Int) := by rw [IntWalk.i64_in _ (by omega)]; omega
    have hln := rulesN_len (bs := bs) (b := rules0 bs i h) pre.length
    simp -implicitDefEqProofs only [rules0, List.length_nil, Nat.zero_add] at hln
    simp -implicitDefEqProofs only [rulesN]
    have hrl : (rulesN bs (rules0 bs i h) pre.length).1.length ≤ 1000000 := by rw [rulesN_len]; simp -implicitDefEqProofs only [rules0, List.length_nil]; omega
    generalize rulesN bs (rules0 bs i h) pre.length = b at *
    rcases rowsQ_len b.1 with hL | hL
    all_goals
      simp -implicitDefEqProofs only [W3, ↓D3, QX, hL, lenA_rowsQ, hp0, hw1, c1, c2, hrl, ruleStep, append_rowQ, plan_63_5, rows_rowQ, boxes_rowQ, ↓isCell_rowQ, cells_rowQ, dedup_rowsQ, nodup_rowsQ, all_rowsQ, allT_rowsQ, small_rowsQ, bad_rowQ, ptr_rowQ, away_rowQ, mapO_rowQ, imp_rowQ, lend_rowQ, shut_rowQ, mem_rowsQ, calm_rowQ, allD_rowsQ, allE_rowsQ, frzD_rowQ, frzB_rowQ, freezeD_all, rows_argsR, boxes_argsR, ↓isCell_argsR, cells_argsR, cellsX_agg, cellsX_int, cellsX_bool, cellsX_str, cellsX_nils, cellsX_sl, cellsX_own, cellsX_ptr, cellsX_cptr, cellsX_undef, dedup_rowsD, nodup_rowsD, all_rowsD, all_rowsT, small_rowsD, bad_argsR, ptr_argsR, mapO_argsR, imp_argsR, lend_argsR4, shut_argsR, mem_rowsD, allmem_rowsD, after_D, freeze_ite, frzB_argsR, away_argsR, calm_argsR, opS_store, slidP_ptr, opS_call, slidM_io1, slidM_io2, away_F, away_ptr, away_int, away_bool, away_nils, away_undef, away_sl, away_agg, away_own, look_nil, evCall_io1, evCall_io2, evCall_io3, evCall_io4, finJ_1, finJ_2, finJ_3, finJ_4, finJ_int, finJ_bool, finJ_str, finJ_nils, finJ_agg, finJ_own, finJ_sl, finJ_tup, look_cons, reduceCtorEq, evCall_mutOwn, evCall_mutAgg, evGive, giveRows, ioBoxes, mutArgs, roArgs, handArg, mutSlots, isPtrB, pairs, pairss, back_nil, back_cons, backO, backE, setBoxes, importB, mode_mut, mode_give, mode_io, mode_ro, List.zip_cons_cons, List.zip_nil_left, List.zip_nil_right, ite_self, ite_true, ite_false, finish_give, finish_mut1, finish_io0, finish_io2, finish_io3, finish_ioc, finI, finC, finW_ptr, SH, noref, isRef, isPtr, noPtr, isBad, AV.isUndef, keep_63_3, leaf_some, isNormal, Int.reduceToNat, id_eq, Int.reduceBEq, Int.reduceLE, Int.reduceLT, AV.isCell, Value.cells, Nat.reduceAdd, Nat.reduceEqDiff, Nat.reduceLT, Nat.reduceLeDiff, Nat.reduceMul, Nat.reduceSub, reduceIte]
      try trace_state
  · simp -implicitDefEqProofs only [firstRegion]
    rw [keep_63_3]
    simp -implicitDefEqProofs only [W3, ↓D3, ↓DA, ↓DP, ↓DC, rulesN, rules0, rowQ_nil, rowsQ_nil, Nat.sub_zero, Int.reduceToNat, id_eq, Int.reduceBEq, Int.reduceLE, Int.reduceLT, SH, Nat.reduceAdd, Nat.reduceEqDiff, Nat.reduceLT, Nat.reduceLeDiff, Nat.reduceMul, Nat.reduceSub, reduceIte]
  · rfl
theorem opQ_lit {Φ : Phi} {nid t len : Nat} {ps : Array (Nat × Operand)} {st : St} {dst : Option Nat} {type : TypeId} {pos : String} {after : Array Edge} {guard : Option (Nat × Bool)} :
    evOpQ E Φ nid { dst, op := .buildSlice t len ps, type, pos, after, guard } st = if (ps.toList.flatMap fun p => (st.val p.2).rows) = [] then evBuildSlice E.P t len (ps.toList.map fun p => (p.1, st.val p.2)) nid dst st else none := rfl
theorem append_rowC {t u id id2 nid : Nat} {l : List Rule} {e a o : Int} {c : Cond} {dst : Option Nat} {st : St} (htu : t = 37) (hu : u = t) (ht : st.tree = false) (hl : l.length ≤ 1000000) :
    evAppend E.P t u (rowQ id l) (.own id2 false 63 7 [.agg [.int .i64 e, .int .i64 a, .int .i64 o, .int .i64 c.op, .int .i64 c.a, .int .i64 c.b, .sl true (c.args.map (Cond.enc true))]]) nid dst st = (st.mapO (scrO (rowsQ id l)) .ptr (scrE (rowsQ id l))).put dst (rowQ nid (l ++ [⟨e, a, o, c⟩])) :=
  append_rowQ (y := ⟨e, a, o, c⟩) htu hu ht hl
theorem len_rowQ {id : Nat} {l : List Rule} : evLen E.P 37 (rowQ id l) = some (.int .i64 (l.length : Nat)) := by
  rcases rowQ_cases l with ⟨h0, h⟩ | ⟨_, h⟩
  · rw [(h _).1, h0]; rfl
  · rw [(h _).1]
    simp -implicitDefEqProofs only [evLen, List.length_map]
    rfl
def oddRule (bs : List Int) (i : Nat) (h : Int) : Draw Rule :=
  let i1 := belowI bs 4 i; let h1 := belowH 4 h
  let i2 := belowI bs ((4 : Nat) : Int) i1; let h2 := belowH ((4 : Nat) : Int) h1
  let n := anyNameD bs i2 h2
  let c := anyCondD bs n.2.1 n.2.2
  (⟨IntKind.i64.wrap (below1 bs 4 i h - 1), oneOf bs [-2, -1, 5, 6] i1 h1, n.1, c.1⟩, c.2.1, c.2.2)
def anyPolicyN (bs : List Int) (p : Policy) (i : Nat) (h : Int) : Nat → Draw Policy
  | 0 => (⟨oneOf bs [-1, 999, 1000] i h, p.rules⟩, belowI bs ((3 : Nat) : Int) i, belowH ((3 : Nat) : Int) h)
  | 1 => (⟨p.version, p.rules ++ [(oddRule bs i h).1]⟩, (oddRule bs i h).2.1, (oddRule bs i h).2.2)
  | 2 => (⟨p.version, (rulesN bs (p.rules, i, h) (9 - p.rules.length)).1⟩, (rulesN bs (p.rules, i, h) (9 - p.rules.length)).2.1, (rulesN bs (p.rules, i, h) (9 - p.rules.length)).2.2)
  | _ => (p, i, h)
def anyPolicyD (bs : List Int) (i : Nat) (h : Int) : Draw Policy :=
  anyPolicyN bs (policyD bs i h).1 (belowI bs 8 (policyD bs i h).2.1) (belowH 8 (policyD bs i h).2.2) (below1 bs 8 (policyD bs i h).2.1 (policyD bs i h).2.2).toNat
theorem r_spec_l19Any {fl : Bool} (k : Nat) (hk : 290271069732864 + 14 ≤ k) (bs : List Int) (hb : bs.length ≤ 140737488355328) (i : Nat) (h : Int) :
    run E noExt k 65 [.ptr 0 0] [[.sl fl (bs.map byteA), .int .i64 (i : Nat), .int .i64 h]] = some (.agg [.int .i64 (anyPolicyD bs i h).1.version, rowQ 0 (anyPolicyD bs i h).1.rules], [[.sl fl (bs.map byteA), .int .i64 ((anyPolicyD bs i h).2.1 : Nat), .int .i64 (anyPolicyD bs i h).2.2]]) := by
  have c1 := fun n i h => r_spec_l1Below (fl := fl) (k - 1) (by omega) bs hb n i h
  have c2 := fun i h => r_spec_l19Rule (fl := fl) (k - 1) (by omega) bs hb i h
  have c3 := fun i h => r_spec_l19Policy (fl := fl) (k - 1) (by omega) bs hb i h
  have c4 := fun i h => r_spec_l1Int (fl := fl) (k - 1) (by omega) bs hb [-1, 999, 1000] (by decide) i h
  have c5 := fun i h => r_spec_l1Int (fl := fl) (k - 1) (by omega) bs hb [-2, -1, 5, 6] (by decide) i h
  have c6 := fun i h => r_spec_l5Any (fl := fl) (k - 1) (by omega) bs hb i h
  have c7 := fun i h => r_spec_l15Any (fl := fl) (k - 1) (by omega) bs hb i h
  have hlt := below_lt bs (n := 8) (by omega) (by omega) (policyD bs i h).2.1 (policyD bs i h).2.2
  have hlen := policyD_len (bs := bs) (i := i) (h := h)
  obtain ⟨k, rfl⟩ : ∃ j, k = j + 1 := ⟨k - 1, by omega⟩
  rw [run_succ rfl rfl, body_eq (nt := 46) (fn := Go.Proofs.Tryz.f65) (by kernel_rfl) rfl rfl rfl rfl rfl rfl rfl rfl]
  simp -implicitDefEqProofs only [Nat.add_sub_cancel, Rule.dAV, dAV_D, List.map_cons, List.map_nil, List.length_cons, List.length_nil, Nat.zero_add, Nat.reduceAdd] at c1 c2 c3 c4 c5 c6 c7
  unfold anyPolicyD
  have c8 := c3 i h
  generalize policyD bs i h = X at *
  generalize hd : below1 bs 8 X.2.1 X.2.2 = d at *
  generalize hi1 : belowI bs 8 X.2.1 = i1 at *
  generalize hh1 : belowH 8 X.2.2 = h1 at *
  have hrl : X.1.rules.length ≤ 1000000 := by omega
  have hm : d = 2 ∨ d = 0 ∨ d = 1 ∨ (d = 3 ∨ d = 4 ∨ d = 5 ∨ d = 6 ∨ d = 7) := by omega
  rcases hm with rfl | rfl | rfl | hm
  · simp -implicitDefEqProofs only [anyPolicyN, Int.reduceToNat]
    simp -implicitDefEqProofs only [W3, ↓D3, hi1, hh1, hrl, hd, finish_cell1, finish_cell2, finCell_some, Go.Proofs.Tryz.f65, c1, c8, rows_rowQ, boxes_rowQ, ↓isCell_rowQ, cells_rowQ, dedup_rowsQ, nodup_rowsQ, all_rowsQ, allT_rowsQ, small_rowsQ, bad_rowQ, ptr_rowQ, away_rowQ, mapO_rowQ, imp_rowQ, lend_rowQ, shut_rowQ, mem_rowsQ, calm_rowQ, allD_rowsQ, allE_rowsQ, frzD_rowQ, frzB_rowQ, freezeD_all, rows_argsR, boxes_argsR, ↓isCell_argsR, cells_argsR, cellsX_agg, cellsX_int, cellsX_bool, cellsX_str, cellsX_nils, cellsX_sl, cellsX_own, cellsX_ptr, cellsX_cptr, cellsX_undef, dedup_rowsD, nodup_rowsD, all_rowsD, all_rowsT, small_rowsD, bad_argsR, ptr_argsR, mapO_argsR, imp_argsR, lend_argsR4, shut_argsR, mem_rowsD, allmem_rowsD, after_D, freeze_ite, frzB_argsR, away_argsR, calm_argsR, opS_store, slidP_ptr, opS_call, slidM_io1, slidM_io2, away_F, away_ptr, away_int, away_bool, away_nils, away_undef, away_sl, away_agg, away_own, look_nil, evCall_io1, evCall_io2, evCall_io3, evCall_io4, finJ_1, finJ_2, finJ_3, finJ_4, finJ_int, finJ_bool, finJ_str, finJ_nils, finJ_agg, finJ_own, finJ_sl, finJ_tup, look_cons, reduceCtorEq, evCall_mutOwn, evCall_mutAgg, evGive, giveRows, ioBoxes, mutArgs, roArgs, handArg, mutSlots, isPtrB, pairs, pairss, back_nil, back_cons, backO, backE, setBoxes, importB, mode_mut, mode_give, mode_io, mode_ro, List.zip_cons_cons, List.zip_nil_left, List.zip_nil_right, ite_self, ite_true, ite_false, finish_give, finish_mut1, finish_io0, finish_io2, finish_io3, finish_ioc, finI, finC, finW_ptr, SH, noref, isRef, isPtr, noPtr, isBad, AV.isUndef, Int.reduceToNat, id_eq, Int.reduceBEq, Int.reduceLE, Int.reduceLT, AV.isCell, Value.cells, Nat.reduceAdd, Nat.reduceEqDiff, Nat.reduceLT, Nat.reduceLeDiff, Nat.reduceMul, Nat.reduceSub, reduceIte]
    rw [ev_loop]
    refine Eq.trans (loop_list (Q := fun (_ : Unit) x => thenEnd E.P _ _ 1 (thenEv E _ _ _ _ _ (outOf 0 (outOf 1 x))) = some (.agg [.int .i64 X.1.version, rowQ 0 (rulesN bs (X.1.rules, i1, h1) (9 - X.1.rules.length)).1], [[.sl fl (bs.map byteA), .int .i64 ((rulesN bs (X.1.rules, i1, h1) (9 - X.1.rules.length)).2.1 : Nat), .int .i64 (rulesN bs (X.1.rules, i1, h1) (9 - X.1.rules.length)).2.2]])) (List.range (9 - X.1.rules.length)) (fun _ _ _ => .inr ()) id
      (fun j _ => { sl := [(0, .ptr 0 0), (2, .ptr 1 0), (3, .ptr 2 0)], bx := [(0, [.sl fl (bs.map byteA), .int .i64 ((rulesN bs (X.1.rules, i1, h1) j).2.1 : Nat), .int .i64 (rulesN bs (X.1.rules, i1, h1) j).2.2]), (1, [.int .i64 0, .nils]), (2, [.int .i64 X.1.version, rowQ 0 (rulesN bs (X.1.rules, i1, h1) j).1])], nx := (rowsQ 0 (rulesN bs (X.1.rules, i1, h1) j).1).length + 3, nt := 46 }) (fun _ _ => True) () ?_ ?_ (by simp; omega) trivial ?_) ?_
    · intro _ _
      rw [List.length_range]
      have h0 : ¬ (((rulesN bs (X.1.rules, i1, h1) (9 - X.1.rules.length)).1.length : Nat) : Int) < 9 := by rw [rulesN_len]; simp only; omega
      generalize rulesN bs (X.1.rules, i1, h1) (9 - X.1.rules.length) = b at *
      rcases rowsQ_len b.1 with hL | hL
      all_goals
        simp -implicitDefEqProofs only [W3, ↓D3, QX, h0, hL, len_rowQ, finish_cell1, finish_cell2, finCell_some, rows_rowQ, boxes_rowQ, ↓isCell_rowQ, cells_rowQ, dedup_rowsQ, nodup_rowsQ, all_rowsQ, allT_rowsQ, small_rowsQ, bad_rowQ, ptr_rowQ, away_rowQ, mapO_rowQ, imp_rowQ, lend_rowQ, shut_rowQ, mem_rowsQ, calm_rowQ, allD_rowsQ, allE_rowsQ, frzD_rowQ, frzB_rowQ, freezeD_all, rows_argsR, boxes_argsR, ↓isCell_argsR, cells_argsR, cellsX_agg, cellsX_int, cellsX_bool, cellsX_str, cellsX_nils, cellsX_sl, cellsX_own, cellsX_ptr, cellsX_cptr, cellsX_undef, dedup_rowsD, nodup_rowsD, all_rowsD, all_rowsT, small_rowsD, bad_argsR, ptr_argsR, mapO_argsR, imp_argsR, lend_argsR4, shut_argsR, mem_rowsD, allmem_rowsD, after_D, freeze_ite, frzB_argsR, away_argsR, calm_argsR, opS_store, slidP_ptr, opS_call, slidM_io1, slidM_io2, away_F, away_ptr, away_int, away_bool, away_nils, away_undef, away_sl, away_agg, away_own, look_nil, evCall_io1, evCall_io2, evCall_io3, evCall_io4, finJ_1, finJ_2, finJ_3, finJ_4, finJ_int, finJ_bool, finJ_str, finJ_nils, finJ_agg, finJ_own, finJ_sl, finJ_tup, look_cons, reduceCtorEq, evCall_mutOwn, evCall_mutAgg, evGive, giveRows, ioBoxes, mutArgs, roArgs, handArg, mutSlots, isPtrB, pairs, pairss, back_nil, back_cons, backO, backE, setBoxes, importB, mode_mut, mode_give, mode_io, mode_ro, List.zip_cons_cons, List.zip_nil_left, List.zip_nil_right, ite_self, ite_true, ite_false, finish_give, finish_mut1, finish_io0, finish_io2, finish_io3, finish_ioc, finI, finC, finW_ptr, SH, noref, isRef, isPtr, noPtr, isBad, AV.isUndef, leaf_some, isNormal, Int.reduceToNat, id_eq, Int.reduceBEq, Int.reduceLE, Int.reduceLT, AV.isCell, Value.cells, Nat.reduceAdd, Nat.reduceEqDiff, Nat.reduceLT, Nat.reduceLeDiff, Nat.reduceMul, Nat.reduceSub, reduceIte]
        try trace_state
    · intro pre z r _ hs' _
      have hpl : pre.length < 9 - X.1.rules.length := by have := congrArg List.length hs'; simp at this; omega
      clear hs'
      have h0 : (((rulesN bs (X.1.rules, i1, h1) pre.length).1.length : Nat) : Int) < 9 := by rw [rulesN_len]; simp only; omega
      have hrl : (rulesN bs (X.1.rules, i1, h1) pre.length).1.length ≤ 1000000 := by omega
      simp -implicitDefEqProofs only [rulesN]
      generalize rulesN bs (X.1.rules, i1, h1) pre.length = b at *
      rcases rowsQ_len b.1 with hL | hL
      all_goals
        simp -implicitDefEqProofs only [W3, ↓D3, QX, hL, h0, lenA_rowsQ, len_rowQ, c1, c2, hrl, ruleStep, append_rowQ, plan_65_6, plan_65_9, rows_rowQ, boxes_rowQ, ↓isCell_rowQ, cells_rowQ, dedup_rowsQ, nodup_rowsQ, all_rowsQ, allT_rowsQ, small_rowsQ, bad_rowQ, ptr_rowQ, away_rowQ, mapO_rowQ, imp_rowQ, lend_rowQ, shut_rowQ, mem_rowsQ, calm_rowQ, allD_rowsQ, allE_rowsQ, frzD_rowQ, frzB_rowQ, freezeD_all, rows_argsR, boxes_argsR, ↓isCell_argsR, cells_argsR, cellsX_agg, cellsX_int, cellsX_bool, cellsX_str, cellsX_nils, cellsX_sl, cellsX_own, cellsX_ptr, cellsX_cptr, cellsX_undef, dedup_rowsD, nodup_rowsD, all_rowsD, all_rowsT, small_rowsD, bad_argsR, ptr_argsR, mapO_argsR, imp_argsR, lend_argsR4, shut_argsR, mem_rowsD, allmem_rowsD, after_D, freeze_ite, frzB_argsR, away_argsR, calm_argsR, opS_store, slidP_ptr, opS_call, slidM_io1, slidM_io2, away_F, away_ptr, away_int, away_bool, away_nils, away_undef, away_sl, away_agg, away_own, look_nil, evCall_io1, evCall_io2, evCall_io3, evCall_io4, finJ_1, finJ_2, finJ_3, finJ_4, finJ_int, finJ_bool, finJ_str, finJ_nils, finJ_agg, finJ_own, finJ_sl, finJ_tup, look_cons, reduceCtorEq, evCall_mutOwn, evCall_mutAgg, evGive, giveRows, ioBoxes, mutArgs, roArgs, handArg, mutSlots, isPtrB, pairs, pairss, back_nil, back_cons, backO, backE, setBoxes, importB, mode_mut, mode_give, mode_io, mode_ro, List.zip_cons_cons, List.zip_nil_left, List.zip_nil_right, ite_self, ite_true, ite_false, finish_give, finish_mut1, finish_io0, finish_io2, finish_io3, finish_ioc, finI, finC, finW_ptr, SH, noref, isRef, isPtr, noPtr, isBad, AV.isUndef, keep_65_8, leaf_some, isNormal, Int.reduceToNat, id_eq, Int.reduceBEq, Int.reduceLE, Int.reduceLT, AV.isCell, Value.cells, Nat.reduceAdd, Nat.reduceEqDiff, Nat.reduceLT, Nat.reduceLeDiff, Nat.reduceMul, Nat.reduceSub, reduceIte]
        try trace_state
    · simp -implicitDefEqProofs only [firstRegion]
      rw [keep_65_8]
      rcases rowQ_cases X.1.rules with ⟨h9, h8⟩ | ⟨h9, h8⟩
      all_goals
        simp -implicitDefEqProofs only [W3, ↓D3, ↓DA, ↓DP, ↓DC, rulesN, h8, Int.reduceToNat, id_eq, Int.reduceBEq, Int.reduceLE, Int.reduceLT, SH, Nat.reduceAdd, Nat.reduceEqDiff, Nat.reduceLT, Nat.reduceLeDiff, Nat.reduceMul, Nat.reduceSub, reduceIte]
        try trace_state
    · rfl
  · simp -implicitDefEqProofs only [W3, ↓D3, anyPolicyN, Int.reduceToNat, hi1, hh1, hrl, hd, finish_cell1, finish_cell2, finCell_some, Go.Proofs.Tryz.f65, c1, c4, c8, rows_rowQ, boxes_rowQ, ↓isCell_rowQ, cells_rowQ, dedup_rowsQ, nodup_rowsQ, all_rowsQ, allT_rowsQ, small_rowsQ, bad_rowQ, ptr_rowQ, away_rowQ, mapO_rowQ, imp_rowQ, lend_rowQ, shut_rowQ, mem_rowsQ, calm_rowQ, allD_rowsQ, allE_rowsQ, frzD_rowQ, frzB_rowQ, freezeD_all, rows_argsR, boxes_argsR, ↓isCell_argsR, cells_argsR, cellsX_agg, cellsX_int, cellsX_bool, cellsX_str, cellsX_nils, cellsX_sl, cellsX_own, cellsX_ptr, cellsX_cptr, cellsX_undef, dedup_rowsD, nodup_rowsD, all_rowsD, all_rowsT, small_rowsD, bad_argsR, ptr_argsR, mapO_argsR, imp_argsR, lend_argsR4, shut_argsR, mem_rowsD, allmem_rowsD, after_D, freeze_ite, frzB_argsR, away_argsR, calm_argsR, opS_store, slidP_ptr, opS_call, slidM_io1, slidM_io2, away_F, away_ptr, away_int, away_bool, away_nils, away_undef, away_sl, away_agg, away_own, look_nil, evCall_io1, evCall_io2, evCall_io3, evCall_io4, finJ_1, finJ_2, finJ_3, finJ_4, finJ_int, finJ_bool, finJ_str, finJ_nils, finJ_agg, finJ_own, finJ_sl, finJ_tup, look_cons, reduceCtorEq, evCall_mutOwn, evCall_mutAgg, evGive, giveRows, ioBoxes, mutArgs, roArgs, handArg, mutSlots, isPtrB, pairs, pairss, back_nil, back_cons, backO, backE, setBoxes, importB, mode_mut, mode_give, mode_io, mode_ro, List.zip_cons_cons, List.zip_nil_left, List.zip_nil_right, ite_self, ite_true, ite_false, finish_give, finish_mut1, finish_io0, finish_io2, finish_io3, finish_ioc, finI, finC, finW_ptr, SH, noref, isRef, isPtr, noPtr, isBad, AV.isUndef, id_eq, Int.reduceBEq, Int.reduceLE, Int.reduceLT, AV.isCell, Value.cells, Nat.reduceAdd, Nat.reduceEqDiff, Nat.reduceLT, Nat.reduceLeDiff, Nat.reduceMul, Nat.reduceSub, reduceIte]
  · simp -implicitDefEqProofs only [W3, ↓D3, anyPolicyN, oddRule, append_rowC, Int.reduceToNat, hi1, hh1, hrl, hd, finish_cell1, finish_cell2, finCell_some, Go.Proofs.Tryz.f65, c1, c5, c6, c7, c8, opQ_lit, plan_65_6, plan_65_9, rows_rowQ, boxes_rowQ, ↓isCell_rowQ, cells_rowQ, dedup_rowsQ, nodup_rowsQ, all_rowsQ, allT_rowsQ, small_rowsQ, bad_rowQ, ptr_rowQ, away_rowQ, mapO_rowQ, imp_rowQ, lend_rowQ, shut_rowQ, mem_rowsQ, calm_rowQ, allD_rowsQ, allE_rowsQ, frzD_rowQ, frzB_rowQ, freezeD_all, rows_argsR, boxes_argsR, ↓isCell_argsR, cells_argsR, cellsX_agg, cellsX_int, cellsX_bool, cellsX_str, cellsX_nils, cellsX_sl, cellsX_own, cellsX_ptr, cellsX_cptr, cellsX_undef, dedup_rowsD, nodup_rowsD, all_rowsD, all_rowsT, small_rowsD, bad_argsR, ptr_argsR, mapO_argsR, imp_argsR, lend_argsR4, shut_argsR, mem_rowsD, allmem_rowsD, after_D, freeze_ite, frzB_argsR, away_argsR, calm_argsR, opS_store, slidP_ptr, opS_call, slidM_io1, slidM_io2, away_F, away_ptr, away_int, away_bool, away_nils, away_undef, away_sl, away_agg, away_own, look_nil, evCall_io1, evCall_io2, evCall_io3, evCall_io4, finJ_1, finJ_2, finJ_3, finJ_4, finJ_int, finJ_bool, finJ_str, finJ_nils, finJ_agg, finJ_own, finJ_sl, finJ_tup, look_cons, reduceCtorEq, evCall_mutOwn, evCall_mutAgg, evGive, giveRows, ioBoxes, mutArgs, roArgs, handArg, mutSlots, isPtrB, pairs, pairss, back_nil, back_cons, backO, backE, setBoxes, importB, mode_mut, mode_give, mode_io, mode_ro, List.zip_cons_cons, List.zip_nil_left, List.zip_nil_right, ite_self, ite_true, ite_false, finish_give, finish_mut1, finish_io0, finish_io2, finish_io3, finish_ioc, finI, finC, finW_ptr, SH, noref, isRef, isPtr, noPtr, isBad, AV.isUndef, id_eq, Int.reduceBEq, Int.reduceLE, Int.reduceLT, AV.isCell, Value.cells, Nat.reduceAdd, Nat.reduceEqDiff, Nat.reduceLT, Nat.reduceLeDiff, Nat.reduceMul, Nat.reduceSub, reduceIte]
  · rcases hm with rfl | rfl | rfl | rfl | rfl
    all_goals
      simp -implicitDefEqProofs only [W3, ↓D3, anyPolicyN, Int.reduceToNat, hi1, hh1, hd, finish_cell1, finish_cell2, finCell_some, Go.Proofs.Tryz.f65, c1, c8, rows_rowQ, boxes_rowQ, ↓isCell_rowQ, cells_rowQ, dedup_rowsQ, nodup_rowsQ, all_rowsQ, allT_rowsQ, small_rowsQ, bad_rowQ, ptr_rowQ, away_rowQ, mapO_rowQ, imp_rowQ, lend_rowQ, shut_rowQ, mem_rowsQ, calm_rowQ, allD_rowsQ, allE_rowsQ, frzD_rowQ, frzB_rowQ, freezeD_all, rows_argsR, boxes_argsR, ↓isCell_argsR, cells_argsR, cellsX_agg, cellsX_int, cellsX_bool, cellsX_str, cellsX_nils, cellsX_sl, cellsX_own, cellsX_ptr, cellsX_cptr, cellsX_undef, dedup_rowsD, nodup_rowsD, all_rowsD, all_rowsT, small_rowsD, bad_argsR, ptr_argsR, mapO_argsR, imp_argsR, lend_argsR4, shut_argsR, mem_rowsD, allmem_rowsD, after_D, freeze_ite, frzB_argsR, away_argsR, calm_argsR, opS_store, slidP_ptr, opS_call, slidM_io1, slidM_io2, away_F, away_ptr, away_int, away_bool, away_nils, away_undef, away_sl, away_agg, away_own, look_nil, evCall_io1, evCall_io2, evCall_io3, evCall_io4, finJ_1, finJ_2, finJ_3, finJ_4, finJ_int, finJ_bool, finJ_str, finJ_nils, finJ_agg, finJ_own, finJ_sl, finJ_tup, look_cons, reduceCtorEq, evCall_mutOwn, evCall_mutAgg, evGive, giveRows, ioBoxes, mutArgs, roArgs, handArg, mutSlots, isPtrB, pairs, pairss, back_nil, back_cons, backO, backE, setBoxes, importB, mode_mut, mode_give, mode_io, mode_ro, List.zip_cons_cons, List.zip_nil_left, List.zip_nil_right, ite_self, ite_true, ite_false, finish_give, finish_mut1, finish_io0, finish_io2, finish_io3, finish_ioc, finI, finC, finW_ptr, SH, noref, isRef, isPtr, noPtr, isBad, AV.isUndef, id_eq, Int.reduceBEq, Int.reduceLE, Int.reduceLT, AV.isCell, Value.cells, Nat.reduceAdd, Nat.reduceEqDiff, Nat.reduceLT, Nat.reduceLeDiff, Nat.reduceMul, Nat.reduceSub, reduceIte]
theorem rule_w (bs : List Int) (i : Nat) (h : Int) : (ruleD bs i h).1.w ≤ 6 := by
  have h1 : ∀ i h, (condD bs 2 i h).1.w ≤ 6 := fun i h => condD_w bs 2 i h
  unfold ruleD ruleC ruleN Rule.w
  split <;> exact h1 _ _
theorem rulesN_w {bs : List Int} {b : List Rule × Nat × Int} : ∀ n, wl Rule.w (rulesN bs b n).1 ≤ wl Rule.w b.1 + 7 * n
  | 0 => by simp [rulesN]
  | n + 1 => by
    have h1 := rulesN_w (bs := bs) (b := b) n
    have h2 := rule_w bs (rulesN bs b n).2.1 (rulesN bs b n).2.2
    simp -implicitDefEqProofs only [rulesN, ruleStep, wl_append, wl]
    omega
theorem policyD_w {bs : List Int} {i : Nat} {h : Int} : wl Rule.w (policyD bs i h).1.rules ≤ 28 := by
  have := below_lt bs (n := 4) (by omega) (by omega) (belowI bs 5 i) (belowH 5 h)
  have h1 := rulesN_w (bs := bs) (b := rules0 bs i h) (1 + below1 bs 4 (belowI bs 5 i) (belowH 5 h)).toNat
  have h2 : wl Rule.w (rules0 bs i h).1 = 0 := rfl
  unfold policyD
  simp only
  omega
theorem anyCond_w (bs : List Int) (i : Nat) (h : Int) : (anyCondD bs i h).1.w ≤ 7 := by
  have h1 : (condD bs 2 i h).1.w ≤ 6 := condD_w bs 2 i h
  have h2 : ∀ i h, (leafD bs i h).1.w = 0 := fun i h => leaf_w (leafN_args _)
  unfold anyCondD
  rw [Cond.w_eq] at h1
  unfold anyCondN
  split
  · rw [Cond.w_eq]; simp only; omega
  · rw [Cond.w_eq]; simp only; omega
  · rw [Cond.w_eq]; simp only; omega
  · rw [Cond.w_eq]; simp -implicitDefEqProofs only [wl_append, wl, h2]; omega
  · rw [Cond.w_eq]; simp only; omega
theorem anyPolicy_w {bs : List Int} {i : Nat} {h : Int} : wl Rule.w (anyPolicyD bs i h).1.rules ≤ 100 := by
  have h1 := policyD_w (bs := bs) (i := i) (h := h)
  unfold anyPolicyD anyPolicyN
  split
  · simp only; omega
  · have h2 : ∀ i h, (oddRule bs i h).1.w ≤ 7 := fun i h => anyCond_w bs _ _
    simp -implicitDefEqProofs only [wl_append, wl]
    have := h2 (belowI bs 8 (policyD bs i h).2.1) (belowH 8 (policyD bs i h).2.2)
    omega
  · have h2 := rulesN_w (bs := bs) (b := ((policyD bs i h).1.rules, belowI bs 8 (policyD bs i h).2.1, belowH 8 (policyD bs i h).2.2)) (9 - (policyD bs i h).1.rules.length)
    simp only at h2 ⊢
    omega
  · simp only; omega
end Go.Proofs.YtaojmienjikfbaaGreatDoor.Flat
