/-
The draws: policies.
-/
import Derived.Test.YtokjpncehggojaaGreatEqDV
import Derived.Test.YtokjpncehggojaaGreatEqDN
set_option linter.unusedVariables false
set_option linter.unusedSimpArgs false
set_option maxRecDepth 10000
namespace Go.Proofs.YtokjpncehggojaaGreat.Flat
def rowQ (id : Nat) (l : List Rule) : AV := match l.map (Rule.enc true) with
  | [] => .nils
  | vs => .own id false 42 7 vs
def rowsQ (id : Nat) (l : List Rule) : List Nat := (rowQ id l).rows
theorem rowQ_nil {id : Nat} : rowQ id [] = .nils := rfl
theorem rowQ_own {id : Nat} {l : List Rule} (h : l ≠ []) : rowQ id l = .own id false 42 7 (l.map (Rule.enc true)) := by cases l with | nil => exact absurd rfl h | cons => rfl
theorem rowsQ_nil {id : Nat} : rowsQ id [] = [] := rfl
theorem rowsQ_own {id : Nat} {l : List Rule} (h : l ≠ []) : rowsQ id l = [id] := by unfold rowsQ; rw [rowQ_own h]; rfl
theorem rowQ_cases (l : List Rule) : (l = [] ∧ ∀ id, rowQ id l = .nils ∧ rowsQ id l = []) ∨ (l ≠ [] ∧ ∀ id, rowQ id l = .own id false 42 7 (l.map (Rule.enc true)) ∧ rowsQ id l = [id]) := by
  rcases Classical.em (l = []) with h | h
  · exact .inl ⟨h, fun id => by subst h; exact ⟨rfl, rfl⟩⟩
  · exact .inr ⟨h, fun id => ⟨rowQ_own h, rowsQ_own h⟩⟩
section
variable {i id n nid : Nat} {l : List Rule} {x : Cond} {p : Nat → Nat → AV} {h : Bool → Nat → Bool → Nat → Nat → List AV → Nat → Nat → AV} {ids bs : List Nat} {ld : Bool} {st : St} {bx : Nat → Option (List AV)}
theorem rows_rowQ : (rowQ id l).rows = rowsQ id l := rfl
theorem boxes_rowQ : (rowQ id l).boxes = [] := by rcases rowQ_cases l with ⟨_, h⟩ | ⟨_, h⟩ <;> rw [(h _).1] <;> rfl
theorem isCell_rowQ : (rowQ id l).isCell = true := by rcases rowQ_cases l with ⟨_, h⟩ | ⟨_, h⟩ <;> rw [(h _).1] <;> rfl
theorem cells_rowQ : (rowQ id l).cells = [rowQ id l] := by rcases rowQ_cases l with ⟨_, h⟩ | ⟨_, h⟩ <;> rw [(h _).1] <;> rfl
theorem dedup_rowsQ : dedup (rowsQ id l) = rowsQ id l := by rcases rowQ_cases l with ⟨_, h⟩ | ⟨_, h⟩ <;> rw [(h _).2] <;> rfl
theorem nodup_rowsQ : nodupB (rowsQ id l) = true := by rcases rowQ_cases l with ⟨_, h⟩ | ⟨_, h⟩ <;> rw [(h _).2] <;> rfl
theorem all_rowsQ : ((rowsQ id l).all fun r => decide (r ∈ rowsQ id l)) = true := by rcases rowQ_cases l with ⟨_, h⟩ | ⟨_, h⟩ <;> rw [(h _).2] <;> simp
theorem allT_rowsQ : ((rowsQ id l).all fun _ => true) = true := by simp
theorem small_rowsQ : ((rowsQ 0 l).all fun i => decide (i < 8)) = true := by rcases rowQ_cases l with ⟨_, h⟩ | ⟨_, h⟩ <;> rw [(h _).2] <;> simp
theorem bad_rowQ : AV.any isBad (rowQ id l) = false := by rcases rowQ_cases l with ⟨_, h⟩ | ⟨_, h⟩ <;> rw [(h _).1] <;> rfl
theorem ptr_rowQ : AV.any isPtr (rowQ id l) = false := by rcases rowQ_cases l with ⟨_, h⟩ | ⟨_, h⟩ <;> rw [(h _).1] <;> rfl
theorem away_rowQ : away nid bs ld (rowQ id l) = true := by rcases rowQ_cases l with ⟨_, h⟩ | ⟨_, h⟩ <;> rw [(h _).1] <;> rfl
theorem mapO_rowQ : AV.mapO (fun i fz e sz xs => .own (idx (rowsQ id l) i) fz e sz xs) p h (fun _ => .nils) (rowQ id l) = rowQ 0 l := by
  rcases rowQ_cases l with ⟨_, h⟩ | ⟨_, h⟩
  · rw [(h id).1, (h 0).1]; rfl
  · rw [(h id).1, (h 0).1, (h id).2]; simp [AV.mapO, idx]
theorem imp_rowQ : AV.mapO (fun i fz e sz xs => .own (nid + i) fz e sz xs) p h (fun _ => .nils) (rowQ id l) = rowQ (nid + id) l := by
  rcases rowQ_cases l with ⟨_, h⟩ | ⟨_, h⟩
  · rw [(h id).1, (h _).1]; rfl
  · rw [(h id).1, (h _).1]; rfl
theorem lend_rowQ : lend bx 4 (rowQ id l) = .sl true (l.map (Rule.enc true)) := by
  rcases rowQ_cases l with ⟨h0, h⟩ | ⟨_, h⟩
  · rw [(h id).1, h0]; rfl
  · rw [(h id).1]
    simp -implicitDefEqProofs only [lend, AV.mapO, shuts_Rule]
theorem shut_rowQ : AV.mapO (fun _ _ _ _ xs => .sl true (AV.shuts xs)) p h (fun _ => .sl true []) (rowQ id l) = .sl true (l.map (Rule.enc true)) := by
  rcases rowQ_cases l with ⟨h0, h⟩ | ⟨_, h⟩
  · rw [(h id).1, h0]; rfl
  · rw [(h id).1]
    simp -implicitDefEqProofs only [AV.mapO, shuts_Rule]
theorem mem_rowsQ (h : (i = id) = False) : (i ∈ rowsQ id l) = False := by
  have h1 : i ≠ id := fun e => by rw [e] at h; simp at h
  rcases rowQ_cases l with ⟨_, h⟩ | ⟨_, h⟩ <;> rw [(h _).2] <;> simp [h1]
theorem calm_rowQ : calm st ids ld (rowQ id l) = (rowsQ id l).all fun i => !(decide (i ∈ ids)) := by
  rcases rowQ_cases l with ⟨_, h⟩ | ⟨_, h⟩ <;> rw [(h _).1, (h _).2]
  · rfl
  · simp [calm, AV.rows]
theorem allD_rowsQ (h : (id = n) = False) : ((rowsQ id l).all fun i => !(decide (i ∈ rowsD n x))) = true := by
  have h1 : id ≠ n := fun e => by rw [e] at h; simp at h
  rcases rowQ_cases l with ⟨_, h⟩ | ⟨_, h⟩ <;> rw [(h _).2]
  · rfl
  · rcases argsR_cases x with ⟨_, h⟩ | ⟨_, h⟩ <;> rw [(h _).2] <;> simp [h1]
theorem allE_rowsQ (h : (id = n) = False) : ((rowsQ id l).all fun i => !(decide (i = n))) = true := by
  have h1 : id ≠ n := fun e => by rw [e] at h; simp at h
  rcases rowQ_cases l with ⟨_, h⟩ | ⟨_, h⟩ <;> rw [(h _).2] <;> simp [h1]
theorem frz_rowQ (h2 : id ∉ ids) : AV.mapO (frzO ids) .ptr (frzE ids) (fun _ => .nils) (rowQ id l) = rowQ id l := by
  rcases rowQ_cases l with ⟨_, h⟩ | ⟨_, h⟩
  · rw [(h _).1]; rfl
  · rw [(h _).1]; simp -implicitDefEqProofs only [AV.mapO, frzO, if_neg h2]
theorem frzD_rowQ (h : (id = n) = False) : AV.mapO (frzO (rowsD n x)) .ptr (frzE (rowsD n x)) (fun _ => .nils) (rowQ id l) = rowQ id l := by
  have h1 : id ≠ n := fun e => by rw [e] at h; simp at h
  refine frz_rowQ ?_
  rcases argsR_cases x with ⟨_, h⟩ | ⟨_, h⟩ <;> rw [(h _).2] <;> simp [h1]
theorem frzB_rowQ {c : Bool} (h : (i = id) = False) : AV.mapO (frzO (frB c [i])) .ptr (frzE (frB c [i])) (fun _ => .nils) (rowQ id l) = rowQ id l := by
  have h1 : id ≠ i := fun e => by rw [e] at h; simp at h
  refine frz_rowQ ?_
  unfold frB; split <;> simp [h1]
end
theorem lenA_rowsQ {id : Nat} {l : List Rule} {r : Rule} : (rowsQ id (l ++ [r])).length = 1 := by rw [rowsQ_own (by simp)]; rfl
theorem rowsQ_len (l : List Rule) : (rowsQ 0 l).length = 0 ∨ (rowsQ 0 l).length = 1 := by rcases rowQ_cases l with ⟨_, h⟩ | ⟨_, h⟩ <;> rw [(h _).2] <;> simp
theorem freezeD_all {n : Nat} {x : Cond} {st : St} : st.freeze (rowsD n x) = st.mapO (frzO (rowsD n x)) .ptr (frzE (rowsD n x)) := freeze_all
theorem append_rowQ {t u id id2 nid : Nat} {l : List Rule} {y : Rule} {dst : Option Nat} {st : St} (htu : t = 26) (hu : u = t) (ht : st.tree = false) (hl : l.length ≤ 1000000) :
    evAppend E.P t u (rowQ id l) (.own id2 false 42 7 [.agg [.int .i64 y.effect, .int .i64 y.action, .int .i64 y.object, .int .i64 y.cond.op, .int .i64 y.cond.a, .int .i64 y.cond.b, .sl true (y.cond.args.map (Cond.enc true))]]) nid dst st = (st.mapO (scrO (rowsQ id l)) .ptr (scrE (rowsQ id l))).put dst (rowQ nid (l ++ [y])) := by
  subst hu
  subst htu
  have hr : rowQ nid (l ++ [y]) = .own nid false 42 7 (l.map (Rule.enc true) ++ [y.enc true]) := by
    rw [rowQ_own (by simp)]
    simp
  rw [hr, ← scrub_all]
  have hm1 : (l.length + 1) * 72 ≤ 140737488355328 := by omega
  have hm2 : l.length + 1 ≤ 9223372036854775807 := by omega
  have hm9 : l.length ≤ 9223372036854775806 := by omega
  have hpl : plains [.agg [.int .i64 y.effect, .int .i64 y.action, .int .i64 y.object, .int .i64 y.cond.op, .int .i64 y.cond.a, .int .i64 y.cond.b, .sl true (y.cond.args.map (Cond.enc true))]] = true := rfl
  rcases rowQ_cases l with ⟨h0, h⟩ | ⟨_, h⟩
  · rw [(h _).1, (h _).2, h0]
    simp -implicitDefEqProofs only [W3, ↓D3, ↓DA, ↓DP, ↓DC, hpl, enc_Rule, ht, SH, Int.reduceToNat, id_eq, Int.reduceBEq, Int.reduceLE, Int.reduceLT, Nat.reduceAdd, Nat.reduceEqDiff, Nat.reduceLT, Nat.reduceLeDiff, Nat.reduceMul, Nat.reduceSub, reduceIte]
    try trace_state
  · rw [(h _).1, (h _).2]
    simp -implicitDefEqProofs only [W3, ↓D3, ↓DA, ↓DP, ↓DC, hpl, enc_Rule, ht, hm1, hm2, hm9, SH, Int.reduceToNat, id_eq, Int.reduceBEq, Int.reduceLE, Int.reduceLT, Nat.reduceAdd, Nat.reduceEqDiff, Nat.reduceLT, Nat.reduceLeDiff, Nat.reduceMul, Nat.reduceSub, reduceIte]
    try trace_state
def ruleStep (bs : List Int) (b : List Rule × Nat × Int) : List Rule × Nat × Int := (b.1 ++ [(ruleD bs b.2.1 b.2.2).1], (ruleD bs b.2.1 b.2.2).2.1, (ruleD bs b.2.1 b.2.2).2.2)
def rulesN (bs : List Int) (b : List Rule × Nat × Int) : Nat → List Rule × Nat × Int
  | 0 => b
  | n + 1 => ruleStep bs (rulesN bs b n)
theorem rulesN_len {bs : List Int} {b : List Rule × Nat × Int} : ∀ n, (rulesN bs b n).1.length = b.1.length + n
  | 0 => rfl
  | n + 1 => by simp -implicitDefEqProofs only [rulesN, ruleStep, List.length_append, rulesN_len n, List.length_cons, List.length_nil]; omega
def rules0 (bs : List Int) (i : Nat) (h : Int) : List Rule × Nat × Int := ([], belowI bs 4 (belowI bs 5 i), belowH 4 (belowH 5 h))
def policyD (bs : List Int) (i : Nat) (h : Int) : Draw Policy :=
  (⟨below1 bs 5 i h, (rulesN bs (rules0 bs i h) (1 + below1 bs 4 (belowI bs 5 i) (belowH 5 h)).toNat).1⟩, (rulesN bs (rules0 bs i h) (1 + below1 bs 4 (belowI bs 5 i) (belowH 5 h)).toNat).2.1, (rulesN bs (rules0 bs i h) (1 + below1 bs 4 (belowI bs 5 i) (belowH 5 h)).toNat).2.2)
theorem policyD_len {bs : List Int} {i : Nat} {h : Int} : (policyD bs i h).1.rules.length ≤ 4 := by
  have := below_lt bs (n := 4) (by omega) (by omega) (belowI bs 5 i) (belowH 5 h)
  unfold policyD
  simp -implicitDefEqProofs only [rulesN_len, rules0, List.length_nil]
  omega
theorem r_spec_l19Policy {fl : Bool} (k : Nat) (hk : 290271069732864 + 12 ≤ k) (bs : List Int) (hb : bs.length ≤ 140737488355328) (i : Nat) (h : Int) :
    run E noExt k 19 [.ptr 0 0] [[.sl fl (bs.map byteA), .int .i64 (i : Nat), .int .i64 h]] = some (.agg [.int .i64 (policyD bs i h).1.version, rowQ 0 (policyD bs i h).1.rules], [[.sl fl (bs.map byteA), .int .i64 ((policyD bs i h).2.1 : Nat), .int .i64 (policyD bs i h).2.2]]) := by
  have c1 := fun n i h => r_spec_l1Below (fl := fl) (k - 1) (by omega) bs hb n i h
  have c2 := fun i h => r_spec_l19Rule (fl := fl) (k - 1) (by omega) bs hb i h
  have hlt := below_lt bs (n := 4) (by omega) (by omega) (belowI bs 5 i) (belowH 5 h)
  obtain ⟨k, rfl⟩ : ∃ j, k = j + 1 := ⟨k - 1, by omega⟩
  rw [run_succ rfl rfl, body_eq (nt := 23) (fn := Go.Proofs.Tryz.f19) (by kernel_rfl) rfl rfl rfl rfl rfl rfl rfl rfl]
  simp -implicitDefEqProofs only [Nat.add_sub_cancel, Rule.dAV] at c1 c2
  unfold policyD
  generalize hd : below1 bs 4 (belowI bs 5 i) (belowH 5 h) = d at *
  obtain ⟨m, hm⟩ : ∃ m : Nat, 1 + d = (m : Int) := ⟨(1 + d).toNat, by omega⟩
  have hw0 : IntKind.i64.wrap (1 + d) = (m : Int) := by rw [IntWalk.i64_in _ (by omega)]; exact hm
  simp -implicitDefEqProofs only [hm, Int.toNat_natCast]
  simp -implicitDefEqProofs only [W3, ↓D3, ↓DA, rowQ_nil, Go.Proofs.Tryz.f19, c1, hd, hw0, rows_argsR, boxes_argsR, ↓isCell_argsR, cells_argsR, cellsX_agg, cellsX_int, cellsX_bool, cellsX_str, cellsX_nils, cellsX_sl, cellsX_own, cellsX_ptr, cellsX_cptr, cellsX_undef, dedup_rowsD, nodup_rowsD, all_rowsD, all_rowsT, small_rowsD, bad_argsR, ptr_argsR, mapO_argsR, imp_argsR, lend_argsR4, shut_argsR, mem_rowsD, allmem_rowsD, after_D, freeze_ite, frzB_argsR, away_argsR, calm_argsR, opS_store, slidP_ptr, opS_call, slidM_io1, slidM_io2, away_F, away_ptr, away_int, away_bool, away_nils, away_undef, away_sl, away_agg, away_own, look_nil, evCall_io1, evCall_io2, evCall_io3, evCall_io4, finJ_1, finJ_2, finJ_3, finJ_4, finJ_int, finJ_bool, finJ_str, finJ_nils, finJ_agg, finJ_own, finJ_sl, finJ_tup, look_cons, reduceCtorEq, evCall_mutOwn, evCall_mutAgg, evGive, giveRows, ioBoxes, mutArgs, roArgs, handArg, mutSlots, isPtrB, pairs, pairss, back_nil, back_cons, backO, backE, setBoxes, importB, mode_mut, mode_give, mode_io, mode_ro, List.zip_cons_cons, List.zip_nil_left, List.zip_nil_right, ite_self, ite_true, ite_false, finish_give, finish_mut1, finish_io0, finish_io2, finish_io3, finish_ioc, finI, finC, finW_ptr, SH, noref, isRef, isPtr, noPtr, isBad, AV.isUndef, Int.reduceToNat, id_eq, Int.reduceBEq, Int.reduceLE, Int.reduceLT, AV.cells, AV.isCell, Value.cells, Nat.reduceAdd, Nat.reduceEqDiff, Nat.reduceLT, Nat.reduceLeDiff, Nat.reduceMul, Nat.reduceSub, reduceIte]
  rw [ev_loop]
  refine Eq.trans (loop_list (Q := fun (_ : Unit) x => thenEnd E.P _ _ 1 (thenEv E _ _ _ _ _ (outOf 0 x)) = some (.agg [.int .i64 (below1 bs 5 i h), rowQ 0 (rulesN bs (rules0 bs i h) m).1], [[.sl fl (bs.map byteA), .int .i64 ((rulesN bs (rules0 bs i h) m).2.1 : Nat), .int .i64 (rulesN bs (rules0 bs i h) m).2.2]])) (List.range m) (fun _ _ _ => .inr ()) id
    (fun j _ => { sl := [(0, .ptr 0 0), (2, .ptr 1 0), (3, .ptr 2 0), (4, .int .i64 (((m - j : Nat) : Int)))], bx := [(0, [.sl fl (bs.map byteA), .int .i64 ((rulesN bs (rules0 bs i h) j).2.1 : Nat), .int .i64 (rulesN bs (rules0 bs i h) j).2.2]), (1, [.int .i64 0, .nils]), (2, [.int .i64 (below1 bs 5 i h), rowQ 0 (rulesN bs (rules0 bs i h) j).1])], nx := (rowsQ 0 (rulesN bs (rules0 bs i h) j).1).length + 3, nt := 23 }) (fun _ _ => True) () ?_ ?_ (by simp; omega) trivial ?_) ?_
  · intro _ _
    rw [List.length_range, Nat.sub_self]
    have h0 : ¬ (0 : Int) < ((0 : Nat) : Int) := by omega
    simp -implicitDefEqProofs only [W3, ↓D3, QX, h0, finish_cell1, finish_cell2, finCell_some, rows_rowQ, boxes_rowQ, ↓isCell_rowQ, cells_rowQ, dedup_rowsQ, nodup_rowsQ, all_rowsQ, allT_rowsQ, small_rowsQ, bad_rowQ, ptr_rowQ, away_rowQ, mapO_rowQ, imp_rowQ, lend_rowQ, shut_rowQ, mem_rowsQ, calm_rowQ, allD_rowsQ, allE_rowsQ, frzD_rowQ, frzB_rowQ, freezeD_all, rows_argsR, boxes_argsR, ↓isCell_argsR, cells_argsR, cellsX_agg, cellsX_int, cellsX_bool, cellsX_str, cellsX_nils, cellsX_sl, cellsX_own, cellsX_ptr, cellsX_cptr, cellsX_undef, dedup_rowsD, nodup_rowsD, all_rowsD, all_rowsT, small_rowsD, bad_argsR, ptr_argsR, mapO_argsR, imp_argsR, lend_argsR4, shut_argsR, mem_rowsD, allmem_rowsD, after_D, freeze_ite, frzB_argsR, away_argsR, calm_argsR, opS_store, slidP_ptr, opS_call, slidM_io1, slidM_io2, away_F, away_ptr, away_int, away_bool, away_nils, away_undef, away_sl, away_agg, away_own, look_nil, evCall_io1, evCall_io2, evCall_io3, evCall_io4, finJ_1, finJ_2, finJ_3, finJ_4, finJ_int, finJ_bool, finJ_str, finJ_nils, finJ_agg, finJ_own, finJ_sl, finJ_tup, look_cons, reduceCtorEq, evCall_mutOwn, evCall_mutAgg, evGive, giveRows, ioBoxes, mutArgs, roArgs, handArg, mutSlots, isPtrB, pairs, pairss, back_nil, back_cons, backO, backE, setBoxes, importB, mode_mut, mode_give, mode_io, mode_ro, List.zip_cons_cons, List.zip_nil_left, List.zip_nil_right, ite_self, ite_true, ite_false, finish_give, finish_mut1, finish_io0, finish_io2, finish_io3, finish_ioc, finI, finC, finW_ptr, SH, noref, isRef, isPtr, noPtr, isBad, AV.isUndef, leaf_some, isNormal, Int.reduceToNat, id_eq, Int.reduceBEq, Int.reduceLE, Int.reduceLT, AV.isCell, Value.cells, Nat.reduceAdd, Nat.reduceEqDiff, Nat.reduceLT, Nat.reduceLeDiff, Nat.reduceMul, Nat.reduceSub, reduceIte]
    try trace_state
  · intro pre z r _ hs' _
    have hpl : pre.length < m := by have := congrArg List.length hs'; simp at this; omega
    clear hs'
    have hp0 : (0 : Int) < ((m - pre.length : Nat) : Int) := by omega
    have hw1 : IntKind.i64.wrap (((m - pre.length : Nat) : Int) - 1) = ((m - (pre.length + 1) : Nat) : Int) := by rw [IntWalk.i64_in _ (by omega)]; omega
    have hln := rulesN_len (bs := bs) (b := rules0 bs i h) pre.length
    simp -implicitDefEqProofs only [rules0, List.length_nil, Nat.zero_add] at hln
    simp -implicitDefEqProofs only [rulesN]
    have hrl : (rulesN bs (rules0 bs i h) pre.length).1.length ≤ 1000000 := by rw [rulesN_len]; simp -implicitDefEqProofs only [rules0, List.length_nil]; omega
    generalize rulesN bs (rules0 bs i h) pre.length = b at *
    rcases rowsQ_len b.1 with hL | hL
    all_goals
      simp -implicitDefEqProofs only [W3, ↓D3, QX, hL, lenA_rowsQ, hp0, hw1, c1, c2, hrl, ruleStep, append_rowQ, plan_19_5, rows_rowQ, boxes_rowQ, ↓isCell_rowQ, cells_rowQ, dedup_rowsQ, nodup_rowsQ, all_rowsQ, allT_rowsQ, small_rowsQ, bad_rowQ, ptr_rowQ, away_rowQ, mapO_rowQ, imp_rowQ, lend_rowQ, shut_rowQ, mem_rowsQ, calm_rowQ, allD_rowsQ, allE_rowsQ, frzD_rowQ, frzB_rowQ, freezeD_all, rows_argsR, boxes_argsR, ↓isCell_argsR, cells_argsR, cellsX_agg, cellsX_int, cellsX_bool, cellsX_str, cellsX_nils, cellsX_sl, cellsX_own, cellsX_ptr, cellsX_cptr, cellsX_undef, dedup_rowsD, nodup_rowsD, all_rowsD, all_rowsT, small_rowsD, bad_argsR, ptr_argsR, mapO_argsR, imp_argsR, lend_argsR4, shut_argsR, mem_rowsD, allmem_rowsD, after_D, freeze_ite, frzB_argsR, away_argsR, calm_argsR, opS_store, slidP_ptr, opS_call, slidM_io1, slidM_io2, away_F, away_ptr, away_int, away_bool, away_nils, away_undef, away_sl, away_agg, away_own, look_nil, evCall_io1, evCall_io2, evCall_io3, evCall_io4, finJ_1, finJ_2, finJ_3, finJ_4, finJ_int, finJ_bool, finJ_str, finJ_nils, finJ_agg, finJ_own, finJ_sl, finJ_tup, look_cons, reduceCtorEq, evCall_mutOwn, evCall_mutAgg, evGive, giveRows, ioBoxes, mutArgs, roArgs, handArg, mutSlots, isPtrB, pairs, pairss, back_nil, back_cons, backO, backE, setBoxes, importB, mode_mut, mode_give, mode_io, mode_ro, List.zip_cons_cons, List.zip_nil_left, List.zip_nil_right, ite_self, ite_true, ite_false, finish_give, finish_mut1, finish_io0, finish_io2, finish_io3, finish_ioc, finI, finC, finW_ptr, SH, noref, isRef, isPtr, noPtr, isBad, AV.isUndef, keep_19_3, leaf_some, isNormal, Int.reduceToNat, id_eq, Int.reduceBEq, Int.reduceLE, Int.reduceLT, AV.isCell, Value.cells, Nat.reduceAdd, Nat.reduceEqDiff, Nat.reduceLT, Nat.reduceLeDiff, Nat.reduceMul, Nat.reduceSub, reduceIte]
      try trace_state
  · simp -implicitDefEqProofs only [firstRegion]
    rw [keep_19_3]
    simp -implicitDefEqProofs only [W3, ↓D3, ↓DA, ↓DP, ↓DC, rulesN, rules0, rowQ_nil, rowsQ_nil, Nat.sub_zero, Int.reduceToNat, id_eq, Int.reduceBEq, Int.reduceLE, Int.reduceLT, SH, Nat.reduceAdd, Nat.reduceEqDiff, Nat.reduceLT, Nat.reduceLeDiff, Nat.reduceMul, Nat.reduceSub, reduceIte]
  · rfl
theorem append_rowC {t u id id2 nid : Nat} {l : List Rule} {e a o : Int} {c : Cond} {dst : Option Nat} {st : St} (htu : t = 26) (hu : u = t) (ht : st.tree = false) (hl : l.length ≤ 1000000) :
    evAppend E.P t u (rowQ id l) (.own id2 false 42 7 [.agg [.int .i64 e, .int .i64 a, .int .i64 o, .int .i64 c.op, .int .i64 c.a, .int .i64 c.b, .sl true (c.args.map (Cond.enc true))]]) nid dst st = (st.mapO (scrO (rowsQ id l)) .ptr (scrE (rowsQ id l))).put dst (rowQ nid (l ++ [⟨e, a, o, c⟩])) :=
  append_rowQ (y := ⟨e, a, o, c⟩) htu hu ht hl
theorem rule_w (bs : List Int) (i : Nat) (h : Int) : (ruleD bs i h).1.w ≤ 6 := by
  have h1 : ∀ i h, (condD bs 2 i h).1.w ≤ 6 := fun i h => condD_w bs 2 i h
  unfold ruleD ruleC ruleN Rule.w
  split <;> exact h1 _ _
theorem rulesN_w {bs : List Int} {b : List Rule × Nat × Int} : ∀ n, wl Rule.w (rulesN bs b n).1 ≤ wl Rule.w b.1 + 7 * n
  | 0 => by simp [rulesN]
  | n + 1 => by
    have h1 := rulesN_w (bs := bs) (b := b) n
    have h2 := rule_w bs (rulesN bs b n).2.1 (rulesN bs b n).2.2
    simp -implicitDefEqProofs only [rulesN, ruleStep, wl_append, wl]
    omega
theorem policyD_w {bs : List Int} {i : Nat} {h : Int} : wl Rule.w (policyD bs i h).1.rules ≤ 28 := by
  have := below_lt bs (n := 4) (by omega) (by omega) (belowI bs 5 i) (belowH 5 h)
  have h1 := rulesN_w (bs := bs) (b := rules0 bs i h) (1 + below1 bs 4 (belowI bs 5 i) (belowH 5 h)).toNat
  have h2 : wl Rule.w (rules0 bs i h).1 = 0 := rfl
  unfold policyD
  simp only
  omega
def twoD {α β γ : Type} (f : Nat → Int → Draw α) (g : Nat → Int → Draw β) (mk : α → β → γ) (i : Nat) (h : Int) : Draw γ :=
  (mk (f i h).1 (g (f i h).2.1 (f i h).2.2).1, (g (f i h).2.1 (f i h).2.2).2.1, (g (f i h).2.1 (f i h).2.2).2.2)
def factN (bs : List Int) (kind issuer a u : Int) (i : Nat) (h : Int) : Nat → Draw Fact
  | 1 => twoD (nameD bs 1) (belowD bs 4) (fun s v => ⟨kind, s, v, issuer, a, u⟩) i h
  | 2 => twoD (nameD bs 1) (nameD bs 2) (fun s v => ⟨kind, s, v, issuer, a, u⟩) i h
  | 3 => twoD (nameD bs 2) (belowD bs 4) (fun s v => ⟨kind, s, v, issuer, a, u⟩) i h
  | _ => twoD (nameD bs 3) (belowD bs 4) (fun s v => ⟨kind, s, v, issuer, a, u⟩) i h
def factD (bs : List Int) (i : Nat) (h : Int) : Draw Fact :=
  factN bs (IntKind.i64.wrap (1 + below1 bs 4 i h)) (below1 bs 3 (belowI bs 4 i) (belowH 4 h)) (below1 bs 20 (belowI bs 3 (belowI bs 4 i)) (belowH 3 (belowH 4 h)))
    (IntKind.i64.wrap (below1 bs 20 (belowI bs 3 (belowI bs 4 i)) (belowH 3 (belowH 4 h)) + below1 bs 30 (belowI bs 20 (belowI bs 3 (belowI bs 4 i))) (belowH 20 (belowH 3 (belowH 4 h)))))
    (belowI bs 30 (belowI bs 20 (belowI bs 3 (belowI bs 4 i)))) (belowH 30 (belowH 20 (belowH 3 (belowH 4 h)))) (IntKind.i64.wrap (1 + below1 bs 4 i h)).toNat
theorem r_spec_l6Fact {fl : Bool} (k : Nat) (hk : 281474976710656 + 6 ≤ k) (bs : List Int) (hb : bs.length ≤ 140737488355328) (i : Nat) (h : Int) :
    run E noExt k 48 [.ptr 0 0] [[.sl fl (bs.map byteA), .int .i64 (i : Nat), .int .i64 h]] = some ((factD bs i h).1.enc true, [[.sl fl (bs.map byteA), .int .i64 ((factD bs i h).2.1 : Nat), .int .i64 (factD bs i h).2.2]]) := by
  have c1 := fun n i h => r_spec_l1Below (fl := fl) (k - 1) (by omega) bs hb n i h
  have c2 := fun n i h => r_spec_l5Name (fl := fl) (k - 1) (by omega) bs hb n i h
  have hlt := below_lt bs (n := 4) (by omega) (by omega) i h
  obtain ⟨k, rfl⟩ : ∃ j, k = j + 1 := ⟨k - 1, by omega⟩
  rw [run_succ rfl rfl, body_eq (nt := 51) (fn := Go.Proofs.Tryz.f48) (by kernel_rfl) rfl rfl rfl rfl rfl rfl rfl rfl]
  simp -implicitDefEqProofs only [Nat.add_sub_cancel] at c1 c2
  unfold factD
  generalize hd : below1 bs 4 i h = d at *
  have hm : (IntKind.i64.wrap (1 + d) = 1 ∨ IntKind.i64.wrap (1 + d) = 2 ∨ IntKind.i64.wrap (1 + d) = 3 ∨ IntKind.i64.wrap (1 + d) = 4) := by rw [IntWalk.i64_in _ (by omega)]; omega
  rcases hm with hm | hm | hm | hm
  all_goals
    simp -implicitDefEqProofs only [W3, ↓D3, enc_Fact, factN, twoD, belowD, hm, hd, Int.reduceToNat, finish_cell1, finish_cell2, finCell_some, Go.Proofs.Tryz.f48, c1, c2, plan_48_2, rows_argsR, boxes_argsR, ↓isCell_argsR, cells_argsR, cellsX_agg, cellsX_int, cellsX_bool, cellsX_str, cellsX_nils, cellsX_sl, cellsX_own, cellsX_ptr, cellsX_cptr, cellsX_undef, dedup_rowsD, nodup_rowsD, all_rowsD, all_rowsT, small_rowsD, bad_argsR, ptr_argsR, mapO_argsR, imp_argsR, lend_argsR4, shut_argsR, mem_rowsD, allmem_rowsD, after_D, freeze_ite, frzB_argsR, away_argsR, calm_argsR, opS_store, slidP_ptr, opS_call, slidM_io1, slidM_io2, away_F, away_ptr, away_int, away_bool, away_nils, away_undef, away_sl, away_agg, away_own, look_nil, evCall_io1, evCall_io2, evCall_io3, evCall_io4, finJ_1, finJ_2, finJ_3, finJ_4, finJ_int, finJ_bool, finJ_str, finJ_nils, finJ_agg, finJ_own, finJ_sl, finJ_tup, look_cons, reduceCtorEq, evCall_mutOwn, evCall_mutAgg, evGive, giveRows, ioBoxes, mutArgs, roArgs, handArg, mutSlots, isPtrB, pairs, pairss, back_nil, back_cons, backO, backE, setBoxes, importB, mode_mut, mode_give, mode_io, mode_ro, List.zip_cons_cons, List.zip_nil_left, List.zip_nil_right, ite_self, ite_true, ite_false, finish_give, finish_mut1, finish_io0, finish_io2, finish_io3, finish_ioc, finI, finC, finW_ptr, SH, noref, isRef, isPtr, noPtr, isBad, AV.isUndef, id_eq, Int.reduceBEq, Int.reduceLE, Int.reduceLT, AV.isCell, Value.cells, Nat.reduceAdd, Nat.reduceEqDiff, Nat.reduceLT, Nat.reduceLeDiff, Nat.reduceMul, Nat.reduceSub, reduceIte]
    try trace_state
def requestD (bs : List Int) (i : Nat) (h : Int) : Draw Request :=
  let P := nameD bs 1 i h; let D := nameD bs 2 P.2.1 P.2.2; let G := nameD bs 3 D.2.1 D.2.2
  let A := belowD bs 2 G.2.1 G.2.2; let O := nameD bs 4 A.2.1 A.2.2; let W := belowD bs 30 O.2.1 O.2.2
  (⟨P.1, D.1, G.1, A.1, O.1, W.1⟩, W.2.1, W.2.2)
theorem r_spec_l17Request {fl : Bool} (k : Nat) (hk : 281474976710656 + 6 ≤ k) (bs : List Int) (hb : bs.length ≤ 140737488355328) (i : Nat) (h : Int) :
    run E noExt k 47 [.ptr 0 0] [[.sl fl (bs.map byteA), .int .i64 (i : Nat), .int .i64 h]] = some ((requestD bs i h).1.enc true, [[.sl fl (bs.map byteA), .int .i64 ((requestD bs i h).2.1 : Nat), .int .i64 (requestD bs i h).2.2]]) := by
  have c1 := fun n i h => r_spec_l1Below (fl := fl) (k - 1) (by omega) bs hb n i h
  have c2 := fun n i h => r_spec_l5Name (fl := fl) (k - 1) (by omega) bs hb n i h
  obtain ⟨k, rfl⟩ : ∃ j, k = j + 1 := ⟨k - 1, by omega⟩
  rw [run_succ rfl rfl, body_eq (nt := 26) (fn := Go.Proofs.Tryz.f47) (by kernel_rfl) rfl rfl rfl rfl rfl rfl rfl rfl]
  simp -implicitDefEqProofs only [Nat.add_sub_cancel] at c1 c2
  simp -implicitDefEqProofs only [W3, ↓D3, enc_Request, requestD, belowD, finish_cell1, finish_cell2, finCell_some, Go.Proofs.Tryz.f47, c1, c2, rows_argsR, boxes_argsR, ↓isCell_argsR, cells_argsR, cellsX_agg, cellsX_int, cellsX_bool, cellsX_str, cellsX_nils, cellsX_sl, cellsX_own, cellsX_ptr, cellsX_cptr, cellsX_undef, dedup_rowsD, nodup_rowsD, all_rowsD, all_rowsT, small_rowsD, bad_argsR, ptr_argsR, mapO_argsR, imp_argsR, lend_argsR4, shut_argsR, mem_rowsD, allmem_rowsD, after_D, freeze_ite, frzB_argsR, away_argsR, calm_argsR, opS_store, slidP_ptr, opS_call, slidM_io1, slidM_io2, away_F, away_ptr, away_int, away_bool, away_nils, away_undef, away_sl, away_agg, away_own, look_nil, evCall_io1, evCall_io2, evCall_io3, evCall_io4, finJ_1, finJ_2, finJ_3, finJ_4, finJ_int, finJ_bool, finJ_str, finJ_nils, finJ_agg, finJ_own, finJ_sl, finJ_tup, look_cons, reduceCtorEq, evCall_mutOwn, evCall_mutAgg, evGive, giveRows, ioBoxes, mutArgs, roArgs, handArg, mutSlots, isPtrB, pairs, pairss, back_nil, back_cons, backO, backE, setBoxes, importB, mode_mut, mode_give, mode_io, mode_ro, List.zip_cons_cons, List.zip_nil_left, List.zip_nil_right, ite_self, ite_true, ite_false, finish_give, finish_mut1, finish_io0, finish_io2, finish_io3, finish_ioc, finI, finC, finW_ptr, SH, noref, isRef, isPtr, noPtr, isBad, AV.isUndef, Int.reduceToNat, id_eq, Int.reduceBEq, Int.reduceLE, Int.reduceLT, AV.isCell, Value.cells, Nat.reduceAdd, Nat.reduceEqDiff, Nat.reduceLT, Nat.reduceLeDiff, Nat.reduceMul, Nat.reduceSub, reduceIte]
  try trace_state
def storeD1 (bs : List Int) (b : List Fact × Nat × Int) : List Fact × Nat × Int := (putS b.1 (factD bs b.2.1 b.2.2).1, (factD bs b.2.1 b.2.2).2.1, (factD bs b.2.1 b.2.2).2.2)
def storeN (bs : List Int) (b : List Fact × Nat × Int) : Nat → List Fact × Nat × Int
  | 0 => b
  | n + 1 => storeD1 bs (storeN bs b n)
theorem storeN_len {bs : List Int} {b : List Fact × Nat × Int} (hb : b.1.length ≤ 30) : ∀ n, (storeN bs b n).1.length ≤ 30
  | 0 => hb
  | n + 1 => putS_len (storeN_len hb n)
def storeD (bs : List Int) (i : Nat) (h : Int) : Draw (List Fact) := storeN bs ([], belowI bs 10 i, belowH 10 h) (below1 bs 10 i h).toNat
theorem storeD_len {bs : List Int} {i : Nat} {h : Int} : (storeD bs i h).1.length ≤ 30 := storeN_len (by simp) _
theorem r_spec_l7Store {fl : Bool} (k : Nat) (hk : 281474976710656 + 24 ≤ k) (bs : List Int) (hb : bs.length ≤ 140737488355328) (i : Nat) (h : Int) :
    run E noExt k 46 [.ptr 0 0] [[.sl fl (bs.map byteA), .int .i64 (i : Nat), .int .i64 h]] = some (.own 0 false 92 6 ((storeD bs i h).1.map (Fact.enc true)), [[.sl fl (bs.map byteA), .int .i64 ((storeD bs i h).2.1 : Nat), .int .i64 (storeD bs i h).2.2]]) := by
  have c1 := fun n i h => r_spec_l1Below (fl := fl) (k - 1) (by omega) bs hb n i h
  have c2 := fun i h => r_spec_l6Fact (fl := fl) (k - 1) (by omega) bs hb i h
  have c3 := fun s hs f => r_spec_PutFact (k - 1) (by omega) s hs f
  have hlt := below_lt bs (n := 10) (by omega) (by omega) i h
  obtain ⟨k, rfl⟩ : ∃ j, k = j + 1 := ⟨k - 1, by omega⟩
  rw [run_succ rfl rfl, body_eq (nt := 20) (fn := Go.Proofs.Tryz.f46) (by kernel_rfl) rfl rfl rfl rfl rfl rfl rfl rfl]
  simp -implicitDefEqProofs only [Nat.add_sub_cancel, enc_Fact] at c1 c2 c3
  unfold storeD
  generalize hd : below1 bs 10 i h = d at *
  obtain ⟨m, rfl⟩ : ∃ m : Nat, d = (m : Int) := ⟨d.toNat, by omega⟩
  simp -implicitDefEqProofs only [Int.toNat_natCast]
  simp -implicitDefEqProofs only [W3, ↓D3, ↓DA, Go.Proofs.Tryz.f46, c1, hd, rows_argsR, boxes_argsR, ↓isCell_argsR, cells_argsR, cellsX_agg, cellsX_int, cellsX_bool, cellsX_str, cellsX_nils, cellsX_sl, cellsX_own, cellsX_ptr, cellsX_cptr, cellsX_undef, dedup_rowsD, nodup_rowsD, all_rowsD, all_rowsT, small_rowsD, bad_argsR, ptr_argsR, mapO_argsR, imp_argsR, lend_argsR4, shut_argsR, mem_rowsD, allmem_rowsD, after_D, freeze_ite, frzB_argsR, away_argsR, calm_argsR, opS_store, slidP_ptr, opS_call, slidM_io1, slidM_io2, away_F, away_ptr, away_int, away_bool, away_nils, away_undef, away_sl, away_agg, away_own, look_nil, evCall_io1, evCall_io2, evCall_io3, evCall_io4, finJ_1, finJ_2, finJ_3, finJ_4, finJ_int, finJ_bool, finJ_str, finJ_nils, finJ_agg, finJ_own, finJ_sl, finJ_tup, look_cons, reduceCtorEq, evCall_mutOwn, evCall_mutAgg, evGive, giveRows, ioBoxes, mutArgs, roArgs, handArg, mutSlots, isPtrB, pairs, pairss, back_nil, back_cons, backO, backE, setBoxes, importB, mode_mut, mode_give, mode_io, mode_ro, List.zip_cons_cons, List.zip_nil_left, List.zip_nil_right, ite_self, ite_true, ite_false, finish_give, finish_mut1, finish_io0, finish_io2, finish_io3, finish_ioc, finI, finC, finW_ptr, SH, noref, isRef, isPtr, noPtr, isBad, AV.isUndef, Int.reduceToNat, id_eq, Int.reduceBEq, Int.reduceLE, Int.reduceLT, AV.cells, AV.isCell, Value.cells, Nat.reduceAdd, Nat.reduceEqDiff, Nat.reduceLT, Nat.reduceLeDiff, Nat.reduceMul, Nat.reduceSub, reduceIte]
  rw [ev_loop]
  refine Eq.trans (loop_list (Q := fun (_ : Unit) x => thenEnd E.P _ _ 1 (thenEv E _ _ _ _ _ (outOf 0 x)) = some (.own 0 false 92 6 ((storeN bs ([], belowI bs 10 i, belowH 10 h) m).1.map (Fact.enc true)), [[.sl fl (bs.map byteA), .int .i64 ((storeN bs ([], belowI bs 10 i, belowH 10 h) m).2.1 : Nat), .int .i64 (storeN bs ([], belowI bs 10 i, belowH 10 h) m).2.2]])) (List.range m) (fun _ _ _ => .inr ()) id
    (fun j _ => { sl := [(0, .ptr 0 0), (3, .own 0 false 92 6 ((storeN bs ([], belowI bs 10 i, belowH 10 h) j).1.map (Fact.enc true))), (4, .int .i64 (((m - j : Nat) : Int)))], bx := [(0, [.sl fl (bs.map byteA), .int .i64 ((storeN bs ([], belowI bs 10 i, belowH 10 h) j).2.1 : Nat), .int .i64 (storeN bs ([], belowI bs 10 i, belowH 10 h) j).2.2])], nx := 2, nt := 20 }) (fun _ _ => True) () ?_ ?_ (by simp; omega) trivial ?_) ?_
  · intro _ _
    rw [List.length_range, Nat.sub_self]
    have h0 : ¬ (0 : Int) < ((0 : Nat) : Int) := by omega
    simp -implicitDefEqProofs only [W3, ↓D3, ↓DA, ↓DP, ↓DC, QX, h0, look_nil, evCall_io1, evCall_io2, evCall_io3, evCall_io4, finJ_1, finJ_2, finJ_3, finJ_4, finJ_int, finJ_bool, finJ_str, finJ_nils, finJ_agg, finJ_own, finJ_sl, finJ_tup, look_cons, reduceCtorEq, evCall_mutOwn, evCall_mutAgg, evGive, giveRows, ioBoxes, mutArgs, roArgs, handArg, mutSlots, isPtrB, pairs, pairss, back_nil, back_cons, backO, backE, setBoxes, importB, mode_mut, mode_give, mode_io, mode_ro, List.zip_cons_cons, List.zip_nil_left, List.zip_nil_right, ite_self, ite_true, ite_false, finish_give, finish_mut1, finish_io0, finish_io2, finish_io3, finish_ioc, finI, finC, finW_ptr, SH, leaf_some, isNormal, Int.reduceToNat, id_eq, Int.reduceBEq, Int.reduceLE, Int.reduceLT, Nat.reduceAdd, Nat.reduceEqDiff, Nat.reduceLT, Nat.reduceLeDiff, Nat.reduceMul, Nat.reduceSub, reduceIte]
    try trace_state
  · intro pre z r _ hs' _
    have hpl : pre.length < m := by have := congrArg List.length hs'; simp at this; omega
    clear hs'
    have hp0 : (0 : Int) < ((m - pre.length : Nat) : Int) := by omega
    have hw1 : IntKind.i64.wrap (((m - pre.length : Nat) : Int) - 1) = ((m - (pre.length + 1) : Nat) : Int) := by rw [IntWalk.i64_in _ (by omega)]; omega
    have hst := storeN_len (bs := bs) (b := ([], belowI bs 10 i, belowH 10 h)) (by simp) pre.length
    simp -implicitDefEqProofs only [storeN]
    generalize storeN bs ([], belowI bs 10 i, belowH 10 h) pre.length = b at *
    have c4 := c3 b.1 (by omega) (factD bs b.2.1 b.2.2).1
    simp -implicitDefEqProofs only [storeD1]
    generalize putS b.1 (factD bs b.2.1 b.2.2).1 = Y at *
    simp -implicitDefEqProofs only [W3, ↓D3, ↓DA, ↓DP, ↓DC, QX, hp0, hw1, c1, c2, c4, scals_Fact, shuts_Fact, look_nil, evCall_io1, evCall_io2, evCall_io3, evCall_io4, finJ_1, finJ_2, finJ_3, finJ_4, finJ_int, finJ_bool, finJ_str, finJ_nils, finJ_agg, finJ_own, finJ_sl, finJ_tup, look_cons, reduceCtorEq, evCall_mutOwn, evCall_mutAgg, evGive, giveRows, ioBoxes, mutArgs, roArgs, handArg, mutSlots, isPtrB, pairs, pairss, back_nil, back_cons, backO, backE, setBoxes, importB, mode_mut, mode_give, mode_io, mode_ro, List.zip_cons_cons, List.zip_nil_left, List.zip_nil_right, ite_self, ite_true, ite_false, finish_give, finish_mut1, finish_io0, finish_io2, finish_io3, finish_ioc, finI, finC, finW_ptr, SH, keep_46_3, leaf_some, isNormal, Int.reduceToNat, id_eq, Int.reduceBEq, Int.reduceLE, Int.reduceLT, Nat.reduceAdd, Nat.reduceEqDiff, Nat.reduceLT, Nat.reduceLeDiff, Nat.reduceMul, Nat.reduceSub, reduceIte]
    try trace_state
  · simp -implicitDefEqProofs only [firstRegion]
    rw [keep_46_3]
    simp -implicitDefEqProofs only [W3, ↓D3, ↓DA, ↓DP, ↓DC, storeN, Nat.sub_zero, Int.reduceToNat, id_eq, Int.reduceBEq, Int.reduceLE, Int.reduceLT, SH, Nat.reduceAdd, Nat.reduceEqDiff, Nat.reduceLT, Nat.reduceLeDiff, Nat.reduceMul, Nat.reduceSub, reduceIte]
    try trace_state
  · rfl
end Go.Proofs.YtokjpncehggojaaGreat.Flat
