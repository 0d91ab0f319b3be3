/-
A diagram answers as its table, and equal tables have equal diagrams: the law.
-/
import Derived.Test.YtclpcglblcmcoaaEqTA
import Derived.Test.YtclpcglblcmcoaaEqSB
set_option linter.unusedVariables false
set_option linter.unusedSimpArgs false
set_option maxRecDepth 10000
namespace Go.Proofs.Ytclpcglblcmcoaa.Flat
theorem from_facts {n : Int} {table : List Bool} (h : fromOk n table = true) : isDiagram (fromTable n table) = true ∧ tableOf (fromTable n table) = table := by
  have h0 := h
  unfold fromOk at h0
  rw [Bool.and_eq_true, decide_eq_true_eq] at h0
  have hr := h0.1
  simp -implicitDefEqProofs only [inR, Bool.and_eq_true, decide_eq_true_eq] at hr
  obtain ⟨m, rfl⟩ : ∃ m : Nat, n = (m : Int) := ⟨n.toNat, by omega⟩
  have hm : m ≤ 6 := by omega
  have ht : table.length = 2 ^ m := by simpa using h0.2
  exact ⟨(table_answers hm ht).1, table_table hm ht⟩
theorem back_ok {a : Diagram} (h : isDiagram a = true) : fromOk a.atoms (tableOf a) = true := by
  obtain ⟨A, hA, hA6, _⟩ := diagram_facts h
  have := table_len h hA
  unfold fromOk
  rw [hA, Int.toNat_natCast, this]
  simp [inR]
  omega
theorem dep_not {l : List Choice} {i : Nat} (hi : i < 6) (h : ((depL l 6).any fun c => c == (i : Int)) = false) : ∀ x ∈ l, x.atom ≠ (i : Int) := by
  intro x hx e
  rw [List.any_eq_false] at h
  have hm : ((i : Nat) : Int) ∈ depL l 6 := by
    unfold depL
    refine List.mem_map.2 ⟨i, List.mem_filter.2 ⟨List.mem_range.2 hi, ?_⟩, rfl⟩
    unfold asks
    exact List.any_eq_true.2 ⟨x, hx, by simp [e]⟩
  have := h _ hm
  simp at this
theorem cells_boolsE (l : List Bool) : ((l.map AV.bool).all fun y => decide (y.cells.length = 1)) = true := by
  rw [List.all_eq_true]
  intro y hy
  obtain ⟨c, _, rfl⟩ := List.mem_map.1 hy
  rfl
theorem append_boolsE {t u id id2 nid : Nat} {l : List Bool} {dst : Option Nat} {st : St} (htu : t = 24) (hu : u = t) (ht : st.tree = false) (hl : l.length ≤ 1048576) :
    evAppend E.P t u (.own id false 4 1 []) (.own id2 false 4 1 (l.map AV.bool)) nid dst st = (st.scrub [id]).put dst (.own nid false 4 1 (l.map AV.bool)) := by
  subst hu
  subst htu
  have hm1 : l.length * 1 ≤ 140737488355328 := by omega
  have hm2 : l.length ≤ 9223372036854775807 := by omega
  have h1 := cells_boolsE l
  have h2 := plains_bools2 l
  simp -implicitDefEqProofs only [evAppend, rowOf, TIS, Option.bind_some, h1, h2, zeroOK, spent, List.length_map, List.length_nil, List.nil_append, Nat.zero_add, ht, hm1, hm2, List.not_mem_nil, not_false_eq_true, and_self, if_true, true_and, or_true, Bool.false_eq_true, if_false]
  rw [if_pos]
  exact ⟨by decide, rfl, trivial⟩
theorem opQ_alloc {Φ : Phi} {nid : Nat} {t : TypeId} {st : St} {dst : Option Nat} {type : TypeId} {pos : String} {after : Array Edge} {guard : Option (Nat × Bool)} :
    evOpQ E Φ nid { dst, op := .alloc t, type, pos, after, guard } st = evAlloc E.P t nid dst st := rfl
theorem r_laws_big {fl : Bool} (k : Nat) (hk : 281474976710656 + 1 ≤ k) (bs : List Int) (hb : bs.length ≤ 140737488355328) :
    run E noExt k 4 [.sl fl (bs.map byteA)] [] = some (.bool (decide ((1048576 : Int) < (bs.length : Nat))), []) := by
  obtain ⟨k, rfl⟩ : ∃ j, k = j + 1 := ⟨k - 1, by omega⟩
  rw [run_succ rfl rfl, body_eq (nt := 6) (fn := Go.Proofs.Try.f4) (by kernel_rfl) rfl rfl rfl rfl rfl rfl rfl rfl]
  simp -implicitDefEqProofs only [W3, ↓D3, ↓DA, ↓DP, ↓DC, Go.Proofs.Try.f4, SH, Int.reduceToNat, id_eq, Int.reduceBEq, Int.reduceLE, Int.reduceLT, Nat.reduceAdd, Nat.reduceEqDiff, Nat.reduceLT, Nat.reduceLeDiff, Nat.reduceMul, Nat.reduceSub, reduceIte]
set_option maxHeartbeats 16000000 in
theorem law_FnDiagrams (bs : List Int) (hfit : FitL (fun _ => True) bs) (k : Nat) (hk : 1152921504606846976 ≤ k) : run E noExt k 3 [.sl false (bs.map byteA)] [] = some (.bool true, []) := by
  by_cases hlen : bs.length ≤ 1048576
  · have c0 := r_laws_big (fl := false) (k - 1) (by omega) bs (by omega)
    rw [decide_eq_false (by omega : ¬ (1048576 : Int) < (bs.length : Nat))] at c0
    have c1 := r_spec_DrawFromTable (fl := false) (k - 1) (by omega) bs (by omega)
    have hfl := frmD_len (bs := bs)
    generalize frmD bs = F at *
    obtain ⟨n, table⟩ := F
    simp only at c1 hfl
    have c2 := r_impl_FromTable (fl := true) (k - 1) (by omega) n table (by omega)
    have hd63 := fromTable_len n table
    have hD := from_facts (n := n) (table := table)
    generalize fromTable n table = d at *
    generalize fromOk n table = ok at *
    have hdw : d.w ≤ 1099511627776 := by unfold Diagram.w; omega
    have c3 := r_impl_IsDiagram (fl := true) (k - 1) (by omega) d hdw
    have c4 := r_impl_TableOf (fl := true) (k - 1) (by omega) d hdw
    have c5 := r_laws_sameBools (fl := true) (gl := true) (k - 1) (by omega) table table (by omega)
    have c7 := r_spec_DrawAnswerOf (fl := false) (k - 1) (by omega) bs (by omega)
    have hal := ansD_len (bs := bs)
    have hvl := ansV_len (bs := bs)
    generalize ansD bs = a at *
    generalize ansV bs = v at *
    have haw : a.w ≤ 1099511627776 := by unfold Diagram.w; omega
    have c8 := r_impl_IsDiagram (fl := true) (k - 1) (by omega) a haw
    have c9 := r_impl_AnswerOf (fl := true) (f2 := true) (k - 1) (by omega) a haw v (by omega)
    have c10 := r_spec_IsDiagram (fl := true) (k - 1) (by omega) a haw
    have c11 := r_impl_TableOf (fl := true) (k - 1) (by omega) a haw
    have c12 := r_impl_FromTable (fl := true) (k - 1) (by omega) a.atoms (tableOf a)
    have hb63 := fromTable_len a.atoms (tableOf a)
    have hB : isDiagram a = true → fromOk a.atoms (tableOf a) = true ∧ isDiagram (fromTable a.atoms (tableOf a)) = true ∧ tableOf (fromTable a.atoms (tableOf a)) = tableOf a ∧ (tableOf a).length ≤ 64 ∧ (fromTable a.atoms (tableOf a)).nodes.length ≤ a.nodes.length ∧ ∀ w, answerOf (fromTable a.atoms (tableOf a)) w = answerOf a w := fun h => by
      obtain ⟨A, hA, hA6, _⟩ := diagram_facts h
      have h1 := table_len h hA
      have h2 := pow_small hA6
      exact ⟨back_ok h, (from_facts (back_ok h)).1, (from_facts (back_ok h)).2, by omega, build_least h, build_same h⟩
    generalize fromTable a.atoms (tableOf a) = b at *
    generalize fromOk a.atoms (tableOf a) = okb at *
    have hans : isDiagram a = false → answerOf a v = false := fun h => by unfold answerOf; rw [h]; rfl
    generalize isDiagram a = ia at *
    generalize hta : tableOf a = ta at *
    generalize hav : answerOf a v = av at *
    obtain ⟨k, rfl⟩ : ∃ j, k = j + 1 := ⟨k - 1, by omega⟩
    rw [run_succ rfl rfl, body_eq (nt := 125) (fn := Go.Proofs.Try.f3) (by kernel_rfl) rfl rfl rfl rfl rfl rfl rfl rfl]
    simp -implicitDefEqProofs only [Nat.add_sub_cancel, enc_Diagram] at c0 c1 c2 c3 c4 c5 c7 c8 c9 c10 c11 c12
    unfold Diagram.encN at c2 c7 c12
    obtain ⟨aa, an, ar⟩ := a
    simp only at *
    rcases Classical.em (an = []) with e | e
    · subst e
      simp -implicitDefEqProofs only [encR_nil, rowsL_nil, List.map_nil, List.length_nil] at *
      cases ia with
      | false =>
        rw [hans rfl] at c9
        cases ok with
        | true =>
          obtain ⟨hd1, hd2⟩ := hD rfl
          rw [hd1] at c3
          rw [hd2] at c4
          simp -implicitDefEqProofs only [W3, ↓D3, ↓DA, Go.Proofs.Try.f3, c0, c1, c2, c3, c4, c5, c7, c8, c9, c10, scals_bools2, plains_bools2, scals_Choice, imp_encR, lendO_encR, back_rowsN, rows_encR, boxes_encR, ↓isCell_encR, len_rowsN, dedup_rowsN, nodup_rowsN, all_rowsN, any_encR, mapO_encR, ref_encR, scal_encR, small_rowsN, lend_encR4, SH, noref, isRef, isPtr, noPtr, isBad, AV.isUndef, Int.reduceToNat, id_eq, Int.reduceBEq, Int.reduceLE, Int.reduceLT, AV.cells, AV.isCell, Value.cells, Nat.reduceAdd, Nat.reduceEqDiff, Nat.reduceLT, Nat.reduceLeDiff, Nat.reduceMul, Nat.reduceSub, reduceIte]
        | false =>
          simp -implicitDefEqProofs only [W3, ↓D3, ↓DA, Go.Proofs.Try.f3, c0, c1, c2, c7, c8, c9, c10, scals_bools2, plains_bools2, scals_Choice, imp_encR, lendO_encR, back_rowsN, rows_encR, boxes_encR, ↓isCell_encR, len_rowsN, dedup_rowsN, nodup_rowsN, all_rowsN, any_encR, mapO_encR, ref_encR, scal_encR, small_rowsN, lend_encR4, SH, noref, isRef, isPtr, noPtr, isBad, AV.isUndef, Int.reduceToNat, id_eq, Int.reduceBEq, Int.reduceLE, Int.reduceLT, AV.cells, AV.isCell, Value.cells, Nat.reduceAdd, Nat.reduceEqDiff, Nat.reduceLT, Nat.reduceLeDiff, Nat.reduceMul, Nat.reduceSub, reduceIte]
      | true =>
        obtain ⟨hb1, hb2, hb3, hb4, hb5, hb6⟩ := hB rfl
        have c12' := c12 (by omega)
        subst hb1
        have hbw : b.w ≤ 1099511627776 := by unfold Diagram.w; omega
        have c13 := r_impl_TableOf (fl := true) k (by omega) b hbw
        rw [hb3] at c13
        have c14 := r_laws_sameBools (fl := true) (gl := true) k (by omega) ta ta (by omega)
        have c15 := fun w (hw : w.length ≤ 140737488355328) => r_impl_AnswerOf (fl := true) (f2 := true) k (by omega) b hbw w hw
        have c16 := r_impl_DependsOn (fl := true) k (by omega) b (by omega)
        have c17 := fun x => r_laws_contains (fl := true) k (by omega) (depL b.nodes 6) (by have := depL_len b.nodes 6; omega) x
        have c18 := c15 v (by omega)
        rw [hb6, hav] at c18
        simp -implicitDefEqProofs only [enc_Diagram] at c13 c15 c16 c18
        obtain ⟨ba, bn, br⟩ := b
        simp only at *
        rcases Classical.em (bn = []) with eb | eb
        · subst eb
          simp -implicitDefEqProofs only [encR_nil, rowsL_nil, List.map_nil, List.length_nil] at *
          have hgt : decide ((0 : Int) > 0) = false := decide_eq_false (by omega)
          cases ok with
          | true =>
            obtain ⟨hd1, hd2⟩ := hD rfl
            rw [hd1] at c3
            rw [hd2] at c4
            simp -implicitDefEqProofs only [W3, ↓D3, ↓DA, Go.Proofs.Try.f3, c0, c1, c2, c3, c4, c5, c7, c8, c11, c12', c13, c14, c16, c18, c9, hgt, opQ_alloc, gateAt_still, gateT_true, still_alloc, still_callF, runPlan_still, scals_bools2, plains_bools2, scals_ints, plains_ints, scals_Choice, imp_encR, lendO_encR, opS_store, slidP_ptr, away_ptr, away_agg, away_F, away_int, away_bool, away_nils, away_undef, away_sl, away_own, plan_3_10, plan_3_11, plan_3_19, back_rowsN, rows_encR, boxes_encR, ↓isCell_encR, len_rowsN, dedup_rowsN, nodup_rowsN, all_rowsN, any_encR, mapO_encR, ref_encR, scal_encR, small_rowsN, lend_encR4, SH, noref, isRef, isPtr, noPtr, isBad, AV.isUndef, Int.reduceToNat, id_eq, Int.reduceBEq, Int.reduceLE, Int.reduceLT, AV.cells, AV.isCell, Value.cells, Nat.reduceAdd, Nat.reduceEqDiff, Nat.reduceLT, Nat.reduceLeDiff, Nat.reduceMul, Nat.reduceSub, reduceIte]
            clear c0 c1 c2 c7 c8 c9 c11 c12 c12' c13 c14
            rw [ev_loop]
            refine Eq.trans (loop_list (Q := fun (_ : Unit) x => thenEnd E.P _ _ 0 (thenEv E _ _ _ _ _ (outOf 0 x)) = some (.bool true, [])) v (fun _ _ _ => .inr ()) id
              (fun j _ => { sl := [(8, .own 0 false 4 1 (v.map AV.bool)), (9, .ptr 0 0), (11, .own 1 false 3 1 ((depL [] 6).map (AV.int .i64))), (12, .int .i64 (j : Nat))], bx := [(0, [.int .i64 ba, .nils, .int .i64 br])], nx := 3, nt := 125 }) (fun _ _ => True) () ?_ ?_ (by omega) trivial ?_) ?_
            · intro _ _
              simp -implicitDefEqProofs only [W3, ↓D3, ↓DA, ↓DP, ↓DC, QX, SH, leaf_some, isNormal, Int.reduceToNat, id_eq, Int.reduceBEq, Int.reduceLE, Int.reduceLT, Nat.reduceAdd, Nat.reduceEqDiff, Nat.reduceLT, Nat.reduceLeDiff, Nat.reduceMul, Nat.reduceSub, reduceIte]
              repeat' (split <;> (rename_i h; (try simp -implicitDefEqProofs only [Bool.not_eq_true', Bool.not_eq_false', decide_eq_true_eq, decide_eq_false_iff_not] at h); (try simp -implicitDefEqProofs only [W3, ↓D3, ↓DA, ↓DP, ↓DC, QX, *, SH, leaf_some, isNormal, Int.reduceToNat, id_eq, Int.reduceBEq, Int.reduceLE, Int.reduceLT, Nat.reduceAdd, Nat.reduceEqDiff, Nat.reduceLT, Nat.reduceLeDiff, Nat.reduceMul, Nat.reduceSub, reduceIte])))
            · intro pre x r _ hs' _
              have hvl2 : v.length ≤ 140737488355328 := by omega
              have hx := (at_row hs' hvl2).1; have hc := (at_row hs' hvl2).2.1; have hlt := (at_row hs' hvl2).2.2.1; have hw1 := (at_row hs' hvl2).2.2.2.1; have hl9 := (at_row hs' hvl2).2.2.2.2
              have hp6 : pre.length < 6 := by have := congrArg List.length hs'; simp at this; omega
              clear hs'
              have d7 := c17 ((pre.length : Nat) : Int)
              have hset : ∀ y : Bool, (v.map AV.bool).set pre.length (.bool y) = (v.set pre.length y).map AV.bool := fun y => by rw [List.map_set]
              have d5 := c15 (v.set pre.length (!x)) (by simp; omega)
              have hm0 : v.length ≤ 1048576 := by omega
              have hpl := plains_bools2 v
              have hm1 : (0 + v.length) * 1 ≤ 140737488355328 := by omega
              have hm2 : 0 + v.length ≤ 9223372036854775807 := by omega
              have hm3 : v.length ≤ 140737488355328 := by omega
              have hm4 : v.length ≤ 9223372036854775807 := by omega
              cases hc9 : (depL [] 6).any fun c => c == ((pre.length : Nat) : Int)
              · have hflip : answerOf (⟨ba, [], br⟩ : Diagram) (v.set pre.length (!x)) = av := by
                  rw [flip_same hb2 (i := pre.length) (dep_not hp6 hc9) (v := v.set pre.length (!x)) (w := v) (fun j hj => by
                    rw [List.getD_eq_getElem?_getD, List.getElem?_set_ne (Ne.symm hj), List.getD_eq_getElem?_getD]), hb6, hav]
                rw [hflip] at d5
                rw [hc9] at d7
                simp -implicitDefEqProofs only [W3, ↓D3, ↓DP, ↓DC, QX, hx, hlt, hw1, d5, d7, c18, hset, hpl, hm1, hm2, hm3, hm4, hc9, bne, append_boolsE, hm0, scals_Choice, scals_bools2, plains_bools2, scals_ints, plains_ints, plan_3_10, plan_3_11, plan_3_19, SH, keep_3_15, leaf_some, isNormal, Int.reduceToNat, id_eq, Int.reduceBEq, Int.reduceLE, Int.reduceLT, Nat.reduceAdd, Nat.reduceEqDiff, Nat.reduceLT, Nat.reduceLeDiff, Nat.reduceMul, Nat.reduceSub, reduceIte]
                repeat' (split <;> (rename_i h; (try simp -implicitDefEqProofs only [Bool.not_eq_true', Bool.not_eq_false', decide_eq_true_eq, decide_eq_false_iff_not] at h); (try simp -implicitDefEqProofs only [W3, ↓D3, ↓DP, ↓DC, QX, *, hx, hlt, hw1, d5, d7, c18, hset, hpl, hm1, hm2, hm3, hm4, hc9, bne, append_boolsE, hm0, scals_Choice, scals_bools2, plains_bools2, scals_ints, plains_ints, plan_3_10, plan_3_11, plan_3_19, SH, keep_3_15, leaf_some, isNormal, Int.reduceToNat, id_eq, Int.reduceBEq, Int.reduceLE, Int.reduceLT, Nat.reduceAdd, Nat.reduceEqDiff, Nat.reduceLT, Nat.reduceLeDiff, Nat.reduceMul, Nat.reduceSub, reduceIte])))
                try trace_state
              · rw [hc9] at d7
                simp -implicitDefEqProofs only [W3, ↓D3, ↓DP, ↓DC, QX, hx, hlt, hw1, d7, c18, hset, hpl, hm1, hm2, hm3, hm4, hc9, bne, append_boolsE, hm0, scals_Choice, scals_bools2, plains_bools2, scals_ints, plains_ints, plan_3_10, plan_3_11, plan_3_19, SH, keep_3_15, leaf_some, isNormal, Int.reduceToNat, id_eq, Int.reduceBEq, Int.reduceLE, Int.reduceLT, Nat.reduceAdd, Nat.reduceEqDiff, Nat.reduceLT, Nat.reduceLeDiff, Nat.reduceMul, Nat.reduceSub, reduceIte]
                repeat' (split <;> (rename_i h; (try simp -implicitDefEqProofs only [Bool.not_eq_true', Bool.not_eq_false', decide_eq_true_eq, decide_eq_false_iff_not] at h); (try simp -implicitDefEqProofs only [W3, ↓D3, ↓DP, ↓DC, QX, *, hx, hlt, hw1, d7, c18, hset, hpl, hm1, hm2, hm3, hm4, hc9, bne, append_boolsE, hm0, scals_Choice, scals_bools2, plains_bools2, scals_ints, plains_ints, plan_3_10, plan_3_11, plan_3_19, SH, keep_3_15, leaf_some, isNormal, Int.reduceToNat, id_eq, Int.reduceBEq, Int.reduceLE, Int.reduceLT, Nat.reduceAdd, Nat.reduceEqDiff, Nat.reduceLT, Nat.reduceLeDiff, Nat.reduceMul, Nat.reduceSub, reduceIte])))
                try trace_state
            · simp -implicitDefEqProofs only [firstRegion]
              rw [keep_3_15]
              simp -implicitDefEqProofs only [W3, ↓D3, ↓DA, ↓DP, ↓DC, Int.reduceToNat, id_eq, Int.reduceBEq, Int.reduceLE, Int.reduceLT, SH, Nat.reduceAdd, Nat.reduceEqDiff, Nat.reduceLT, Nat.reduceLeDiff, Nat.reduceMul, Nat.reduceSub, reduceIte]
              try trace_state
            · rfl
          | false =>
            simp -implicitDefEqProofs only [W3, ↓D3, ↓DA, Go.Proofs.Try.f3, c0, c1, c2, c7, c8, c11, c12', c13, c14, c16, c18, c9, hgt, opQ_alloc, gateAt_still, gateT_true, still_alloc, still_callF, runPlan_still, scals_bools2, plains_bools2, scals_ints, plains_ints, scals_Choice, imp_encR, lendO_encR, opS_store, slidP_ptr, away_ptr, away_agg, away_F, away_int, away_bool, away_nils, away_undef, away_sl, away_own, plan_3_10, plan_3_11, plan_3_19, back_rowsN, rows_encR, boxes_encR, ↓isCell_encR, len_rowsN, dedup_rowsN, nodup_rowsN, all_rowsN, any_encR, mapO_encR, ref_encR, scal_encR, small_rowsN, lend_encR4, SH, noref, isRef, isPtr, noPtr, isBad, AV.isUndef, Int.reduceToNat, id_eq, Int.reduceBEq, Int.reduceLE, Int.reduceLT, AV.cells, AV.isCell, Value.cells, Nat.reduceAdd, Nat.reduceEqDiff, Nat.reduceLT, Nat.reduceLeDiff, Nat.reduceMul, Nat.reduceSub, reduceIte]
            clear c0 c1 c2 c7 c8 c9 c11 c12 c12' c13 c14
            rw [ev_loop]
            refine Eq.trans (loop_list (Q := fun (_ : Unit) x => thenEnd E.P _ _ 0 (thenEv E _ _ _ _ _ (outOf 0 x)) = some (.bool true, [])) v (fun _ _ _ => .inr ()) id
              (fun j _ => { sl := [(8, .own 0 false 4 1 (v.map AV.bool)), (9, .ptr 0 0), (11, .own 1 false 3 1 ((depL [] 6).map (AV.int .i64))), (12, .int .i64 (j : Nat))], bx := [(0, [.int .i64 ba, .nils, .int .i64 br])], nx := 3, nt := 125 }) (fun _ _ => True) () ?_ ?_ (by omega) trivial ?_) ?_
            · intro _ _
              simp -implicitDefEqProofs only [W3, ↓D3, ↓DA, ↓DP, ↓DC, QX, SH, leaf_some, isNormal, Int.reduceToNat, id_eq, Int.reduceBEq, Int.reduceLE, Int.reduceLT, Nat.reduceAdd, Nat.reduceEqDiff, Nat.reduceLT, Nat.reduceLeDiff, Nat.reduceMul, Nat.reduceSub, reduceIte]
              repeat' (split <;> (rename_i h; (try simp -implicitDefEqProofs only [Bool.not_eq_true', Bool.not_eq_false', decide_eq_true_eq, decide_eq_false_iff_not] at h); (try simp -implicitDefEqProofs only [W3, ↓D3, ↓DA, ↓DP, ↓DC, QX, *, SH, leaf_some, isNormal, Int.reduceToNat, id_eq, Int.reduceBEq, Int.reduceLE, Int.reduceLT, Nat.reduceAdd, Nat.reduceEqDiff, Nat.reduceLT, Nat.reduceLeDiff, Nat.reduceMul, Nat.reduceSub, reduceIte])))
            · intro pre x r _ hs' _
              have hvl2 : v.length ≤ 140737488355328 := by omega
              have hx := (at_row hs' hvl2).1; have hc := (at_row hs' hvl2).2.1; have hlt := (at_row hs' hvl2).2.2.1; have hw1 := (at_row hs' hvl2).2.2.2.1; have hl9 := (at_row hs' hvl2).2.2.2.2
              have hp6 : pre.length < 6 := by have := congrArg List.length hs'; simp at this; omega
              clear hs'
              have d7 := c17 ((pre.length : Nat) : Int)
              have hset : ∀ y : Bool, (v.map AV.bool).set pre.length (.bool y) = (v.set pre.length y).map AV.bool := fun y => by rw [List.map_set]
              have d5 := c15 (v.set pre.length (!x)) (by simp; omega)
              have hm0 : v.length ≤ 1048576 := by omega
              have hpl := plains_bools2 v
              have hm1 : (0 + v.length) * 1 ≤ 140737488355328 := by omega
              have hm2 : 0 + v.length ≤ 9223372036854775807 := by omega
              have hm3 : v.length ≤ 140737488355328 := by omega
              have hm4 : v.length ≤ 9223372036854775807 := by omega
              cases hc9 : (depL [] 6).any fun c => c == ((pre.length : Nat) : Int)
              · have hflip : answerOf (⟨ba, [], br⟩ : Diagram) (v.set pre.length (!x)) = av := by
                  rw [flip_same hb2 (i := pre.length) (dep_not hp6 hc9) (v := v.set pre.length (!x)) (w := v) (fun j hj => by
                    rw [List.getD_eq_getElem?_getD, List.getElem?_set_ne (Ne.symm hj), List.getD_eq_getElem?_getD]), hb6, hav]
                rw [hflip] at d5
                rw [hc9] at d7
                simp -implicitDefEqProofs only [W3, ↓D3, ↓DP, ↓DC, QX, hx, hlt, hw1, d5, d7, c18, hset, hpl, hm1, hm2, hm3, hm4, hc9, bne, append_boolsE, hm0, scals_Choice, scals_bools2, plains_bools2, scals_ints, plains_ints, plan_3_10, plan_3_11, plan_3_19, SH, keep_3_15, leaf_some, isNormal, Int.reduceToNat, id_eq, Int.reduceBEq, Int.reduceLE, Int.reduceLT, Nat.reduceAdd, Nat.reduceEqDiff, Nat.reduceLT, Nat.reduceLeDiff, Nat.reduceMul, Nat.reduceSub, reduceIte]
                repeat' (split <;> (rename_i h; (try simp -implicitDefEqProofs only [Bool.not_eq_true', Bool.not_eq_false', decide_eq_true_eq, decide_eq_false_iff_not] at h); (try simp -implicitDefEqProofs only [W3, ↓D3, ↓DP, ↓DC, QX, *, hx, hlt, hw1, d5, d7, c18, hset, hpl, hm1, hm2, hm3, hm4, hc9, bne, append_boolsE, hm0, scals_Choice, scals_bools2, plains_bools2, scals_ints, plains_ints, plan_3_10, plan_3_11, plan_3_19, SH, keep_3_15, leaf_some, isNormal, Int.reduceToNat, id_eq, Int.reduceBEq, Int.reduceLE, Int.reduceLT, Nat.reduceAdd, Nat.reduceEqDiff, Nat.reduceLT, Nat.reduceLeDiff, Nat.reduceMul, Nat.reduceSub, reduceIte])))
                try trace_state
              · rw [hc9] at d7
                simp -implicitDefEqProofs only [W3, ↓D3, ↓DP, ↓DC, QX, hx, hlt, hw1, d7, c18, hset, hpl, hm1, hm2, hm3, hm4, hc9, bne, append_boolsE, hm0, scals_Choice, scals_bools2, plains_bools2, scals_ints, plains_ints, plan_3_10, plan_3_11, plan_3_19, SH, keep_3_15, leaf_some, isNormal, Int.reduceToNat, id_eq, Int.reduceBEq, Int.reduceLE, Int.reduceLT, Nat.reduceAdd, Nat.reduceEqDiff, Nat.reduceLT, Nat.reduceLeDiff, Nat.reduceMul, Nat.reduceSub, reduceIte]
                repeat' (split <;> (rename_i h; (try simp -implicitDefEqProofs only [Bool.not_eq_true', Bool.not_eq_false', decide_eq_true_eq, decide_eq_false_iff_not] at h); (try simp -implicitDefEqProofs only [W3, ↓D3, ↓DP, ↓DC, QX, *, hx, hlt, hw1, d7, c18, hset, hpl, hm1, hm2, hm3, hm4, hc9, bne, append_boolsE, hm0, scals_Choice, scals_bools2, plains_bools2, scals_ints, plains_ints, plan_3_10, plan_3_11, plan_3_19, SH, keep_3_15, leaf_some, isNormal, Int.reduceToNat, id_eq, Int.reduceBEq, Int.reduceLE, Int.reduceLT, Nat.reduceAdd, Nat.reduceEqDiff, Nat.reduceLT, Nat.reduceLeDiff, Nat.reduceMul, Nat.reduceSub, reduceIte])))
                try trace_state
            · simp -implicitDefEqProofs only [firstRegion]
              rw [keep_3_15]
              simp -implicitDefEqProofs only [W3, ↓D3, ↓DA, ↓DP, ↓DC, Int.reduceToNat, id_eq, Int.reduceBEq, Int.reduceLE, Int.reduceLT, SH, Nat.reduceAdd, Nat.reduceEqDiff, Nat.reduceLT, Nat.reduceLeDiff, Nat.reduceMul, Nat.reduceSub, reduceIte]
              try trace_state
            · rfl
        · simp -implicitDefEqProofs only [encR_ne eb] at c12'
          have hgt : decide ((((bn.length : Nat) : Int) : Int) > 0) = false := decide_eq_false (by omega)
          cases ok with
          | true =>
            obtain ⟨hd1, hd2⟩ := hD rfl
            rw [hd1] at c3
            rw [hd2] at c4
            simp -implicitDefEqProofs only [W3, ↓D3, ↓DA, Go.Proofs.Try.f3, c0, c1, c2, c3, c4, c5, c7, c8, c11, c12', c13, c14, c16, c18, c9, hgt, opQ_alloc, gateAt_still, gateT_true, still_alloc, still_callF, runPlan_still, scals_bools2, plains_bools2, scals_ints, plains_ints, scals_Choice, imp_encR, lendO_encR, opS_store, slidP_ptr, away_ptr, away_agg, away_F, away_int, away_bool, away_nils, away_undef, away_sl, away_own, plan_3_10, plan_3_11, plan_3_19, back_rowsN, rows_encR, boxes_encR, ↓isCell_encR, len_rowsN, dedup_rowsN, nodup_rowsN, all_rowsN, any_encR, mapO_encR, ref_encR, scal_encR, small_rowsN, lend_encR4, SH, noref, isRef, isPtr, noPtr, isBad, AV.isUndef, Int.reduceToNat, id_eq, Int.reduceBEq, Int.reduceLE, Int.reduceLT, AV.cells, AV.isCell, Value.cells, Nat.reduceAdd, Nat.reduceEqDiff, Nat.reduceLT, Nat.reduceLeDiff, Nat.reduceMul, Nat.reduceSub, reduceIte]
            clear c0 c1 c2 c7 c8 c9 c11 c12 c12' c13 c14
            rw [ev_loop]
            refine Eq.trans (loop_list (Q := fun (_ : Unit) x => thenEnd E.P _ _ 0 (thenEv E _ _ _ _ _ (outOf 0 x)) = some (.bool true, [])) v (fun _ _ _ => .inr ()) id
              (fun j _ => { sl := [(8, .own 0 false 4 1 (v.map AV.bool)), (9, .ptr 0 0), (11, .own 1 false 3 1 ((depL bn 6).map (AV.int .i64))), (12, .int .i64 (j : Nat))], bx := [(0, [.int .i64 ba, .own 2 false 49 3 (bn.map (Choice.enc true)), .int .i64 br])], nx := 4, nt := 125 }) (fun _ _ => True) () ?_ ?_ (by omega) trivial ?_) ?_
            · intro _ _
              simp -implicitDefEqProofs only [W3, ↓D3, ↓DA, ↓DP, ↓DC, QX, SH, leaf_some, isNormal, Int.reduceToNat, id_eq, Int.reduceBEq, Int.reduceLE, Int.reduceLT, Nat.reduceAdd, Nat.reduceEqDiff, Nat.reduceLT, Nat.reduceLeDiff, Nat.reduceMul, Nat.reduceSub, reduceIte]
              repeat' (split <;> (rename_i h; (try simp -implicitDefEqProofs only [Bool.not_eq_true', Bool.not_eq_false', decide_eq_true_eq, decide_eq_false_iff_not] at h); (try simp -implicitDefEqProofs only [W3, ↓D3, ↓DA, ↓DP, ↓DC, QX, *, SH, leaf_some, isNormal, Int.reduceToNat, id_eq, Int.reduceBEq, Int.reduceLE, Int.reduceLT, Nat.reduceAdd, Nat.reduceEqDiff, Nat.reduceLT, Nat.reduceLeDiff, Nat.reduceMul, Nat.reduceSub, reduceIte])))
            · intro pre x r _ hs' _
              have hvl2 : v.length ≤ 140737488355328 := by omega
              have hx := (at_row hs' hvl2).1; have hc := (at_row hs' hvl2).2.1; have hlt := (at_row hs' hvl2).2.2.1; have hw1 := (at_row hs' hvl2).2.2.2.1; have hl9 := (at_row hs' hvl2).2.2.2.2
              have hp6 : pre.length < 6 := by have := congrArg List.length hs'; simp at this; omega
              clear hs'
              have d7 := c17 ((pre.length : Nat) : Int)
              have hset : ∀ y : Bool, (v.map AV.bool).set pre.length (.bool y) = (v.set pre.length y).map AV.bool := fun y => by rw [List.map_set]
              have d5 := c15 (v.set pre.length (!x)) (by simp; omega)
              have hm0 : v.length ≤ 1048576 := by omega
              have hpl := plains_bools2 v
              have hm1 : (0 + v.length) * 1 ≤ 140737488355328 := by omega
              have hm2 : 0 + v.length ≤ 9223372036854775807 := by omega
              have hm3 : v.length ≤ 140737488355328 := by omega
              have hm4 : v.length ≤ 9223372036854775807 := by omega
              cases hc9 : (depL bn 6).any fun c => c == ((pre.length : Nat) : Int)
              · have hflip : answerOf (⟨ba, bn, br⟩ : Diagram) (v.set pre.length (!x)) = av := by
                  rw [flip_same hb2 (i := pre.length) (dep_not hp6 hc9) (v := v.set pre.length (!x)) (w := v) (fun j hj => by
                    rw [List.getD_eq_getElem?_getD, List.getElem?_set_ne (Ne.symm hj), List.getD_eq_getElem?_getD]), hb6, hav]
                rw [hflip] at d5
                rw [hc9] at d7
                simp -implicitDefEqProofs only [W3, ↓D3, ↓DP, ↓DC, QX, hx, hlt, hw1, d5, d7, c18, hset, hpl, hm1, hm2, hm3, hm4, hc9, bne, append_boolsE, hm0, scals_Choice, scals_bools2, plains_bools2, scals_ints, plains_ints, plan_3_10, plan_3_11, plan_3_19, SH, keep_3_15, leaf_some, isNormal, Int.reduceToNat, id_eq, Int.reduceBEq, Int.reduceLE, Int.reduceLT, Nat.reduceAdd, Nat.reduceEqDiff, Nat.reduceLT, Nat.reduceLeDiff, Nat.reduceMul, Nat.reduceSub, reduceIte]
                repeat' (split <;> (rename_i h; (try simp -implicitDefEqProofs only [Bool.not_eq_true', Bool.not_eq_false', decide_eq_true_eq, decide_eq_false_iff_not] at h); (try simp -implicitDefEqProofs only [W3, ↓D3, ↓DP, ↓DC, QX, *, hx, hlt, hw1, d5, d7, c18, hset, hpl, hm1, hm2, hm3, hm4, hc9, bne, append_boolsE, hm0, scals_Choice, scals_bools2, plains_bools2, scals_ints, plains_ints, plan_3_10, plan_3_11, plan_3_19, SH, keep_3_15, leaf_some, isNormal, Int.reduceToNat, id_eq, Int.reduceBEq, Int.reduceLE, Int.reduceLT, Nat.reduceAdd, Nat.reduceEqDiff, Nat.reduceLT, Nat.reduceLeDiff, Nat.reduceMul, Nat.reduceSub, reduceIte])))
                try trace_state
              · rw [hc9] at d7
                simp -implicitDefEqProofs only [W3, ↓D3, ↓DP, ↓DC, QX, hx, hlt, hw1, d7, c18, hset, hpl, hm1, hm2, hm3, hm4, hc9, bne, append_boolsE, hm0, scals_Choice, scals_bools2, plains_bools2, scals_ints, plains_ints, plan_3_10, plan_3_11, plan_3_19, SH, keep_3_15, leaf_some, isNormal, Int.reduceToNat, id_eq, Int.reduceBEq, Int.reduceLE, Int.reduceLT, Nat.reduceAdd, Nat.reduceEqDiff, Nat.reduceLT, Nat.reduceLeDiff, Nat.reduceMul, Nat.reduceSub, reduceIte]
                repeat' (split <;> (rename_i h; (try simp -implicitDefEqProofs only [Bool.not_eq_true', Bool.not_eq_false', decide_eq_true_eq, decide_eq_false_iff_not] at h); (try simp -implicitDefEqProofs only [W3, ↓D3, ↓DP, ↓DC, QX, *, hx, hlt, hw1, d7, c18, hset, hpl, hm1, hm2, hm3, hm4, hc9, bne, append_boolsE, hm0, scals_Choice, scals_bools2, plains_bools2, scals_ints, plains_ints, plan_3_10, plan_3_11, plan_3_19, SH, keep_3_15, leaf_some, isNormal, Int.reduceToNat, id_eq, Int.reduceBEq, Int.reduceLE, Int.reduceLT, Nat.reduceAdd, Nat.reduceEqDiff, Nat.reduceLT, Nat.reduceLeDiff, Nat.reduceMul, Nat.reduceSub, reduceIte])))
                try trace_state
            · simp -implicitDefEqProofs only [firstRegion]
              rw [keep_3_15]
              simp -implicitDefEqProofs only [W3, ↓D3, ↓DA, ↓DP, ↓DC, Int.reduceToNat, id_eq, Int.reduceBEq, Int.reduceLE, Int.reduceLT, SH, Nat.reduceAdd, Nat.reduceEqDiff, Nat.reduceLT, Nat.reduceLeDiff, Nat.reduceMul, Nat.reduceSub, reduceIte]
              try trace_state
            · rfl
          | false =>
            simp -implicitDefEqProofs only [W3, ↓D3, ↓DA, Go.Proofs.Try.f3, c0, c1, c2, c7, c8, c11, c12', c13, c14, c16, c18, c9, hgt, opQ_alloc, gateAt_still, gateT_true, still_alloc, still_callF, runPlan_still, scals_bools2, plains_bools2, scals_ints, plains_ints, scals_Choice, imp_encR, lendO_encR, opS_store, slidP_ptr, away_ptr, away_agg, away_F, away_int, away_bool, away_nils, away_undef, away_sl, away_own, plan_3_10, plan_3_11, plan_3_19, back_rowsN, rows_encR, boxes_encR, ↓isCell_encR, len_rowsN, dedup_rowsN, nodup_rowsN, all_rowsN, any_encR, mapO_encR, ref_encR, scal_encR, small_rowsN, lend_encR4, SH, noref, isRef, isPtr, noPtr, isBad, AV.isUndef, Int.reduceToNat, id_eq, Int.reduceBEq, Int.reduceLE, Int.reduceLT, AV.cells, AV.isCell, Value.cells, Nat.reduceAdd, Nat.reduceEqDiff, Nat.reduceLT, Nat.reduceLeDiff, Nat.reduceMul, Nat.reduceSub, reduceIte]
            clear c0 c1 c2 c7 c8 c9 c11 c12 c12' c13 c14
            rw [ev_loop]
            refine Eq.trans (loop_list (Q := fun (_ : Unit) x => thenEnd E.P _ _ 0 (thenEv E _ _ _ _ _ (outOf 0 x)) = some (.bool true, [])) v (fun _ _ _ => .inr ()) id
              (fun j _ => { sl := [(8, .own 0 false 4 1 (v.map AV.bool)), (9, .ptr 0 0), (11, .own 1 false 3 1 ((depL bn 6).map (AV.int .i64))), (12, .int .i64 (j : Nat))], bx := [(0, [.int .i64 ba, .own 2 false 49 3 (bn.map (Choice.enc true)), .int .i64 br])], nx := 4, nt := 125 }) (fun _ _ => True) () ?_ ?_ (by omega) trivial ?_) ?_
            · intro _ _
              simp -implicitDefEqProofs only [W3, ↓D3, ↓DA, ↓DP, ↓DC, QX, SH, leaf_some, isNormal, Int.reduceToNat, id_eq, Int.reduceBEq, Int.reduceLE, Int.reduceLT, Nat.reduceAdd, Nat.reduceEqDiff, Nat.reduceLT, Nat.reduceLeDiff, Nat.reduceMul, Nat.reduceSub, reduceIte]
              repeat' (split <;> (rename_i h; (try simp -implicitDefEqProofs only [Bool.not_eq_true', Bool.not_eq_false', decide_eq_true_eq, decide_eq_false_iff_not] at h); (try simp -implicitDefEqProofs only [W3, ↓D3, ↓DA, ↓DP, ↓DC, QX, *, SH, leaf_some, isNormal, Int.reduceToNat, id_eq, Int.reduceBEq, Int.reduceLE, Int.reduceLT, Nat.reduceAdd, Nat.reduceEqDiff, Nat.reduceLT, Nat.reduceLeDiff, Nat.reduceMul, Nat.reduceSub, reduceIte])))
            · intro pre x r _ hs' _
              have hvl2 : v.length ≤ 140737488355328 := by omega
              have hx := (at_row hs' hvl2).1; have hc := (at_row hs' hvl2).2.1; have hlt := (at_row hs' hvl2).2.2.1; have hw1 := (at_row hs' hvl2).2.2.2.1; have hl9 := (at_row hs' hvl2).2.2.2.2
              have hp6 : pre.length < 6 := by have := congrArg List.length hs'; simp at this; omega
              clear hs'
              have d7 := c17 ((pre.length : Nat) : Int)
              have hset : ∀ y : Bool, (v.map AV.bool).set pre.length (.bool y) = (v.set pre.length y).map AV.bool := fun y => by rw [List.map_set]
              have d5 := c15 (v.set pre.length (!x)) (by simp; omega)
              have hm0 : v.length ≤ 1048576 := by omega
              have hpl := plains_bools2 v
              have hm1 : (0 + v.length) * 1 ≤ 140737488355328 := by omega
              have hm2 : 0 + v.length ≤ 9223372036854775807 := by omega
              have hm3 : v.length ≤ 140737488355328 := by omega
              have hm4 : v.length ≤ 9223372036854775807 := by omega
              cases hc9 : (depL bn 6).any fun c => c == ((pre.length : Nat) : Int)
              · have hflip : answerOf (⟨ba, bn, br⟩ : Diagram) (v.set pre.length (!x)) = av := by
                  rw [flip_same hb2 (i := pre.length) (dep_not hp6 hc9) (v := v.set pre.length (!x)) (w := v) (fun j hj => by
                    rw [List.getD_eq_getElem?_getD, List.getElem?_set_ne (Ne.symm hj), List.getD_eq_getElem?_getD]), hb6, hav]
                rw [hflip] at d5
                rw [hc9] at d7
                simp -implicitDefEqProofs only [W3, ↓D3, ↓DP, ↓DC, QX, hx, hlt, hw1, d5, d7, c18, hset, hpl, hm1, hm2, hm3, hm4, hc9, bne, append_boolsE, hm0, scals_Choice, scals_bools2, plains_bools2, scals_ints, plains_ints, plan_3_10, plan_3_11, plan_3_19, SH, keep_3_15, leaf_some, isNormal, Int.reduceToNat, id_eq, Int.reduceBEq, Int.reduceLE, Int.reduceLT, Nat.reduceAdd, Nat.reduceEqDiff, Nat.reduceLT, Nat.reduceLeDiff, Nat.reduceMul, Nat.reduceSub, reduceIte]
                repeat' (split <;> (rename_i h; (try simp -implicitDefEqProofs only [Bool.not_eq_true', Bool.not_eq_false', decide_eq_true_eq, decide_eq_false_iff_not] at h); (try simp -implicitDefEqProofs only [W3, ↓D3, ↓DP, ↓DC, QX, *, hx, hlt, hw1, d5, d7, c18, hset, hpl, hm1, hm2, hm3, hm4, hc9, bne, append_boolsE, hm0, scals_Choice, scals_bools2, plains_bools2, scals_ints, plains_ints, plan_3_10, plan_3_11, plan_3_19, SH, keep_3_15, leaf_some, isNormal, Int.reduceToNat, id_eq, Int.reduceBEq, Int.reduceLE, Int.reduceLT, Nat.reduceAdd, Nat.reduceEqDiff, Nat.reduceLT, Nat.reduceLeDiff, Nat.reduceMul, Nat.reduceSub, reduceIte])))
                try trace_state
              · rw [hc9] at d7
                simp -implicitDefEqProofs only [W3, ↓D3, ↓DP, ↓DC, QX, hx, hlt, hw1, d7, c18, hset, hpl, hm1, hm2, hm3, hm4, hc9, bne, append_boolsE, hm0, scals_Choice, scals_bools2, plains_bools2, scals_ints, plains_ints, plan_3_10, plan_3_11, plan_3_19, SH, keep_3_15, leaf_some, isNormal, Int.reduceToNat, id_eq, Int.reduceBEq, Int.reduceLE, Int.reduceLT, Nat.reduceAdd, Nat.reduceEqDiff, Nat.reduceLT, Nat.reduceLeDiff, Nat.reduceMul, Nat.reduceSub, reduceIte]
                repeat' (split <;> (rename_i h; (try simp -implicitDefEqProofs only [Bool.not_eq_true', Bool.not_eq_false', decide_eq_true_eq, decide_eq_false_iff_not] at h); (try simp -implicitDefEqProofs only [W3, ↓D3, ↓DP, ↓DC, QX, *, hx, hlt, hw1, d7, c18, hset, hpl, hm1, hm2, hm3, hm4, hc9, bne, append_boolsE, hm0, scals_Choice, scals_bools2, plains_bools2, scals_ints, plains_ints, plan_3_10, plan_3_11, plan_3_19, SH, keep_3_15, leaf_some, isNormal, Int.reduceToNat, id_eq, Int.reduceBEq, Int.reduceLE, Int.reduceLT, Nat.reduceAdd, Nat.reduceEqDiff, Nat.reduceLT, Nat.reduceLeDiff, Nat.reduceMul, Nat.reduceSub, reduceIte])))
                try trace_state
            · simp -implicitDefEqProofs only [firstRegion]
              rw [keep_3_15]
              simp -implicitDefEqProofs only [W3, ↓D3, ↓DA, ↓DP, ↓DC, Int.reduceToNat, id_eq, Int.reduceBEq, Int.reduceLE, Int.reduceLT, SH, Nat.reduceAdd, Nat.reduceEqDiff, Nat.reduceLT, Nat.reduceLeDiff, Nat.reduceMul, Nat.reduceSub, reduceIte]
              try trace_state
            · rfl
    · simp -implicitDefEqProofs only [encR_ne e, rowsL_ne e] at c7
      cases ia with
      | false =>
        rw [hans rfl] at c9
        cases ok with
        | true =>
          obtain ⟨hd1, hd2⟩ := hD rfl
          rw [hd1] at c3
          rw [hd2] at c4
          simp -implicitDefEqProofs only [W3, ↓D3, ↓DA, Go.Proofs.Try.f3, c0, c1, c2, c3, c4, c5, c7, c8, c9, c10, scals_bools2, plains_bools2, scals_Choice, imp_encR, lendO_encR, back_rowsN, rows_encR, boxes_encR, ↓isCell_encR, len_rowsN, dedup_rowsN, nodup_rowsN, all_rowsN, any_encR, mapO_encR, ref_encR, scal_encR, small_rowsN, lend_encR4, SH, noref, isRef, isPtr, noPtr, isBad, AV.isUndef, Int.reduceToNat, id_eq, Int.reduceBEq, Int.reduceLE, Int.reduceLT, AV.cells, AV.isCell, Value.cells, Nat.reduceAdd, Nat.reduceEqDiff, Nat.reduceLT, Nat.reduceLeDiff, Nat.reduceMul, Nat.reduceSub, reduceIte]
        | false =>
          simp -implicitDefEqProofs only [W3, ↓D3, ↓DA, Go.Proofs.Try.f3, c0, c1, c2, c7, c8, c9, c10, scals_bools2, plains_bools2, scals_Choice, imp_encR, lendO_encR, back_rowsN, rows_encR, boxes_encR, ↓isCell_encR, len_rowsN, dedup_rowsN, nodup_rowsN, all_rowsN, any_encR, mapO_encR, ref_encR, scal_encR, small_rowsN, lend_encR4, SH, noref, isRef, isPtr, noPtr, isBad, AV.isUndef, Int.reduceToNat, id_eq, Int.reduceBEq, Int.reduceLE, Int.reduceLT, AV.cells, AV.isCell, Value.cells, Nat.reduceAdd, Nat.reduceEqDiff, Nat.reduceLT, Nat.reduceLeDiff, Nat.reduceMul, Nat.reduceSub, reduceIte]
      | true =>
        obtain ⟨hb1, hb2, hb3, hb4, hb5, hb6⟩ := hB rfl
        have c12' := c12 (by omega)
        subst hb1
        have hbw : b.w ≤ 1099511627776 := by unfold Diagram.w; omega
        have c13 := r_impl_TableOf (fl := true) k (by omega) b hbw
        rw [hb3] at c13
        have c14 := r_laws_sameBools (fl := true) (gl := true) k (by omega) ta ta (by omega)
        have c15 := fun w (hw : w.length ≤ 140737488355328) => r_impl_AnswerOf (fl := true) (f2 := true) k (by omega) b hbw w hw
        have c16 := r_impl_DependsOn (fl := true) k (by omega) b (by omega)
        have c17 := fun x => r_laws_contains (fl := true) k (by omega) (depL b.nodes 6) (by have := depL_len b.nodes 6; omega) x
        have c18 := c15 v (by omega)
        rw [hb6, hav] at c18
        simp -implicitDefEqProofs only [enc_Diagram] at c13 c15 c16 c18
        obtain ⟨ba, bn, br⟩ := b
        simp only at *
        rcases Classical.em (bn = []) with eb | eb
        · subst eb
          simp -implicitDefEqProofs only [encR_nil, rowsL_nil, List.map_nil, List.length_nil] at *
          have hgt : decide ((0 : Int) > ((an.length : Nat) : Int)) = false := decide_eq_false (by omega)
          cases ok with
          | true =>
            obtain ⟨hd1, hd2⟩ := hD rfl
            rw [hd1] at c3
            rw [hd2] at c4
            simp -implicitDefEqProofs only [W3, ↓D3, ↓DA, Go.Proofs.Try.f3, c0, c1, c2, c3, c4, c5, c7, c8, c11, c12', c13, c14, c16, c18, c9, hgt, opQ_alloc, gateAt_still, gateT_true, still_alloc, still_callF, runPlan_still, scals_bools2, plains_bools2, scals_ints, plains_ints, scals_Choice, imp_encR, lendO_encR, opS_store, slidP_ptr, away_ptr, away_agg, away_F, away_int, away_bool, away_nils, away_undef, away_sl, away_own, plan_3_10, plan_3_11, plan_3_19, back_rowsN, rows_encR, boxes_encR, ↓isCell_encR, len_rowsN, dedup_rowsN, nodup_rowsN, all_rowsN, any_encR, mapO_encR, ref_encR, scal_encR, small_rowsN, lend_encR4, SH, noref, isRef, isPtr, noPtr, isBad, AV.isUndef, Int.reduceToNat, id_eq, Int.reduceBEq, Int.reduceLE, Int.reduceLT, AV.cells, AV.isCell, Value.cells, Nat.reduceAdd, Nat.reduceEqDiff, Nat.reduceLT, Nat.reduceLeDiff, Nat.reduceMul, Nat.reduceSub, reduceIte]
            clear c0 c1 c2 c7 c8 c9 c11 c12 c12' c13 c14
            rw [ev_loop]
            refine Eq.trans (loop_list (Q := fun (_ : Unit) x => thenEnd E.P _ _ 0 (thenEv E _ _ _ _ _ (outOf 0 x)) = some (.bool true, [])) v (fun _ _ _ => .inr ()) id
              (fun j _ => { sl := [(8, .own 0 false 4 1 (v.map AV.bool)), (9, .ptr 0 0), (11, .own 1 false 3 1 ((depL [] 6).map (AV.int .i64))), (12, .int .i64 (j : Nat))], bx := [(0, [.int .i64 ba, .nils, .int .i64 br])], nx := 3, nt := 125 }) (fun _ _ => True) () ?_ ?_ (by omega) trivial ?_) ?_
            · intro _ _
              simp -implicitDefEqProofs only [W3, ↓D3, ↓DA, ↓DP, ↓DC, QX, SH, leaf_some, isNormal, Int.reduceToNat, id_eq, Int.reduceBEq, Int.reduceLE, Int.reduceLT, Nat.reduceAdd, Nat.reduceEqDiff, Nat.reduceLT, Nat.reduceLeDiff, Nat.reduceMul, Nat.reduceSub, reduceIte]
              repeat' (split <;> (rename_i h; (try simp -implicitDefEqProofs only [Bool.not_eq_true', Bool.not_eq_false', decide_eq_true_eq, decide_eq_false_iff_not] at h); (try simp -implicitDefEqProofs only [W3, ↓D3, ↓DA, ↓DP, ↓DC, QX, *, SH, leaf_some, isNormal, Int.reduceToNat, id_eq, Int.reduceBEq, Int.reduceLE, Int.reduceLT, Nat.reduceAdd, Nat.reduceEqDiff, Nat.reduceLT, Nat.reduceLeDiff, Nat.reduceMul, Nat.reduceSub, reduceIte])))
            · intro pre x r _ hs' _
              have hvl2 : v.length ≤ 140737488355328 := by omega
              have hx := (at_row hs' hvl2).1; have hc := (at_row hs' hvl2).2.1; have hlt := (at_row hs' hvl2).2.2.1; have hw1 := (at_row hs' hvl2).2.2.2.1; have hl9 := (at_row hs' hvl2).2.2.2.2
              have hp6 : pre.length < 6 := by have := congrArg List.length hs'; simp at this; omega
              clear hs'
              have d7 := c17 ((pre.length : Nat) : Int)
              have hset : ∀ y : Bool, (v.map AV.bool).set pre.length (.bool y) = (v.set pre.length y).map AV.bool := fun y => by rw [List.map_set]
              have d5 := c15 (v.set pre.length (!x)) (by simp; omega)
              have hm0 : v.length ≤ 1048576 := by omega
              have hpl := plains_bools2 v
              have hm1 : (0 + v.length) * 1 ≤ 140737488355328 := by omega
              have hm2 : 0 + v.length ≤ 9223372036854775807 := by omega
              have hm3 : v.length ≤ 140737488355328 := by omega
              have hm4 : v.length ≤ 9223372036854775807 := by omega
              cases hc9 : (depL [] 6).any fun c => c == ((pre.length : Nat) : Int)
              · have hflip : answerOf (⟨ba, [], br⟩ : Diagram) (v.set pre.length (!x)) = av := by
                  rw [flip_same hb2 (i := pre.length) (dep_not hp6 hc9) (v := v.set pre.length (!x)) (w := v) (fun j hj => by
                    rw [List.getD_eq_getElem?_getD, List.getElem?_set_ne (Ne.symm hj), List.getD_eq_getElem?_getD]), hb6, hav]
                rw [hflip] at d5
                rw [hc9] at d7
                simp -implicitDefEqProofs only [W3, ↓D3, ↓DP, ↓DC, QX, hx, hlt, hw1, d5, d7, c18, hset, hpl, hm1, hm2, hm3, hm4, hc9, bne, append_boolsE, hm0, scals_Choice, scals_bools2, plains_bools2, scals_ints, plains_ints, plan_3_10, plan_3_11, plan_3_19, SH, keep_3_15, leaf_some, isNormal, Int.reduceToNat, id_eq, Int.reduceBEq, Int.reduceLE, Int.reduceLT, Nat.reduceAdd, Nat.reduceEqDiff, Nat.reduceLT, Nat.reduceLeDiff, Nat.reduceMul, Nat.reduceSub, reduceIte]
                repeat' (split <;> (rename_i h; (try simp -implicitDefEqProofs only [Bool.not_eq_true', Bool.not_eq_false', decide_eq_true_eq, decide_eq_false_iff_not] at h); (try simp -implicitDefEqProofs only [W3, ↓D3, ↓DP, ↓DC, QX, *, hx, hlt, hw1, d5, d7, c18, hset, hpl, hm1, hm2, hm3, hm4, hc9, bne, append_boolsE, hm0, scals_Choice, scals_bools2, plains_bools2, scals_ints, plains_ints, plan_3_10, plan_3_11, plan_3_19, SH, keep_3_15, leaf_some, isNormal, Int.reduceToNat, id_eq, Int.reduceBEq, Int.reduceLE, Int.reduceLT, Nat.reduceAdd, Nat.reduceEqDiff, Nat.reduceLT, Nat.reduceLeDiff, Nat.reduceMul, Nat.reduceSub, reduceIte])))
                try trace_state
              · rw [hc9] at d7
                simp -implicitDefEqProofs only [W3, ↓D3, ↓DP, ↓DC, QX, hx, hlt, hw1, d7, c18, hset, hpl, hm1, hm2, hm3, hm4, hc9, bne, append_boolsE, hm0, scals_Choice, scals_bools2, plains_bools2, scals_ints, plains_ints, plan_3_10, plan_3_11, plan_3_19, SH, keep_3_15, leaf_some, isNormal, Int.reduceToNat, id_eq, Int.reduceBEq, Int.reduceLE, Int.reduceLT, Nat.reduceAdd, Nat.reduceEqDiff, Nat.reduceLT, Nat.reduceLeDiff, Nat.reduceMul, Nat.reduceSub, reduceIte]
                repeat' (split <;> (rename_i h; (try simp -implicitDefEqProofs only [Bool.not_eq_true', Bool.not_eq_false', decide_eq_true_eq, decide_eq_false_iff_not] at h); (try simp -implicitDefEqProofs only [W3, ↓D3, ↓DP, ↓DC, QX, *, hx, hlt, hw1, d7, c18, hset, hpl, hm1, hm2, hm3, hm4, hc9, bne, append_boolsE, hm0, scals_Choice, scals_bools2, plains_bools2, scals_ints, plains_ints, plan_3_10, plan_3_11, plan_3_19, SH, keep_3_15, leaf_some, isNormal, Int.reduceToNat, id_eq, Int.reduceBEq, Int.reduceLE, Int.reduceLT, Nat.reduceAdd, Nat.reduceEqDiff, Nat.reduceLT, Nat.reduceLeDiff, Nat.reduceMul, Nat.reduceSub, reduceIte])))
                try trace_state
            · simp -implicitDefEqProofs only [firstRegion]
              rw [keep_3_15]
              simp -implicitDefEqProofs only [W3, ↓D3, ↓DA, ↓DP, ↓DC, Int.reduceToNat, id_eq, Int.reduceBEq, Int.reduceLE, Int.reduceLT, SH, Nat.reduceAdd, Nat.reduceEqDiff, Nat.reduceLT, Nat.reduceLeDiff, Nat.reduceMul, Nat.reduceSub, reduceIte]
              try trace_state
            · rfl
          | false =>
            simp -implicitDefEqProofs only [W3, ↓D3, ↓DA, Go.Proofs.Try.f3, c0, c1, c2, c7, c8, c11, c12', c13, c14, c16, c18, c9, hgt, opQ_alloc, gateAt_still, gateT_true, still_alloc, still_callF, runPlan_still, scals_bools2, plains_bools2, scals_ints, plains_ints, scals_Choice, imp_encR, lendO_encR, opS_store, slidP_ptr, away_ptr, away_agg, away_F, away_int, away_bool, away_nils, away_undef, away_sl, away_own, plan_3_10, plan_3_11, plan_3_19, back_rowsN, rows_encR, boxes_encR, ↓isCell_encR, len_rowsN, dedup_rowsN, nodup_rowsN, all_rowsN, any_encR, mapO_encR, ref_encR, scal_encR, small_rowsN, lend_encR4, SH, noref, isRef, isPtr, noPtr, isBad, AV.isUndef, Int.reduceToNat, id_eq, Int.reduceBEq, Int.reduceLE, Int.reduceLT, AV.cells, AV.isCell, Value.cells, Nat.reduceAdd, Nat.reduceEqDiff, Nat.reduceLT, Nat.reduceLeDiff, Nat.reduceMul, Nat.reduceSub, reduceIte]
            clear c0 c1 c2 c7 c8 c9 c11 c12 c12' c13 c14
            rw [ev_loop]
            refine Eq.trans (loop_list (Q := fun (_ : Unit) x => thenEnd E.P _ _ 0 (thenEv E _ _ _ _ _ (outOf 0 x)) = some (.bool true, [])) v (fun _ _ _ => .inr ()) id
              (fun j _ => { sl := [(8, .own 0 false 4 1 (v.map AV.bool)), (9, .ptr 0 0), (11, .own 1 false 3 1 ((depL [] 6).map (AV.int .i64))), (12, .int .i64 (j : Nat))], bx := [(0, [.int .i64 ba, .nils, .int .i64 br])], nx := 3, nt := 125 }) (fun _ _ => True) () ?_ ?_ (by omega) trivial ?_) ?_
            · intro _ _
              simp -implicitDefEqProofs only [W3, ↓D3, ↓DA, ↓DP, ↓DC, QX, SH, leaf_some, isNormal, Int.reduceToNat, id_eq, Int.reduceBEq, Int.reduceLE, Int.reduceLT, Nat.reduceAdd, Nat.reduceEqDiff, Nat.reduceLT, Nat.reduceLeDiff, Nat.reduceMul, Nat.reduceSub, reduceIte]
              repeat' (split <;> (rename_i h; (try simp -implicitDefEqProofs only [Bool.not_eq_true', Bool.not_eq_false', decide_eq_true_eq, decide_eq_false_iff_not] at h); (try simp -implicitDefEqProofs only [W3, ↓D3, ↓DA, ↓DP, ↓DC, QX, *, SH, leaf_some, isNormal, Int.reduceToNat, id_eq, Int.reduceBEq, Int.reduceLE, Int.reduceLT, Nat.reduceAdd, Nat.reduceEqDiff, Nat.reduceLT, Nat.reduceLeDiff, Nat.reduceMul, Nat.reduceSub, reduceIte])))
            · intro pre x r _ hs' _
              have hvl2 : v.length ≤ 140737488355328 := by omega
              have hx := (at_row hs' hvl2).1; have hc := (at_row hs' hvl2).2.1; have hlt := (at_row hs' hvl2).2.2.1; have hw1 := (at_row hs' hvl2).2.2.2.1; have hl9 := (at_row hs' hvl2).2.2.2.2
              have hp6 : pre.length < 6 := by have := congrArg List.length hs'; simp at this; omega
              clear hs'
              have d7 := c17 ((pre.length : Nat) : Int)
              have hset : ∀ y : Bool, (v.map AV.bool).set pre.length (.bool y) = (v.set pre.length y).map AV.bool := fun y => by rw [List.map_set]
              have d5 := c15 (v.set pre.length (!x)) (by simp; omega)
              have hm0 : v.length ≤ 1048576 := by omega
              have hpl := plains_bools2 v
              have hm1 : (0 + v.length) * 1 ≤ 140737488355328 := by omega
              have hm2 : 0 + v.length ≤ 9223372036854775807 := by omega
              have hm3 : v.length ≤ 140737488355328 := by omega
              have hm4 : v.length ≤ 9223372036854775807 := by omega
              cases hc9 : (depL [] 6).any fun c => c == ((pre.length : Nat) : Int)
              · have hflip : answerOf (⟨ba, [], br⟩ : Diagram) (v.set pre.length (!x)) = av := by
                  rw [flip_same hb2 (i := pre.length) (dep_not hp6 hc9) (v := v.set pre.length (!x)) (w := v) (fun j hj => by
                    rw [List.getD_eq_getElem?_getD, List.getElem?_set_ne (Ne.symm hj), List.getD_eq_getElem?_getD]), hb6, hav]
                rw [hflip] at d5
                rw [hc9] at d7
                simp -implicitDefEqProofs only [W3, ↓D3, ↓DP, ↓DC, QX, hx, hlt, hw1, d5, d7, c18, hset, hpl, hm1, hm2, hm3, hm4, hc9, bne, append_boolsE, hm0, scals_Choice, scals_bools2, plains_bools2, scals_ints, plains_ints, plan_3_10, plan_3_11, plan_3_19, SH, keep_3_15, leaf_some, isNormal, Int.reduceToNat, id_eq, Int.reduceBEq, Int.reduceLE, Int.reduceLT, Nat.reduceAdd, Nat.reduceEqDiff, Nat.reduceLT, Nat.reduceLeDiff, Nat.reduceMul, Nat.reduceSub, reduceIte]
                repeat' (split <;> (rename_i h; (try simp -implicitDefEqProofs only [Bool.not_eq_true', Bool.not_eq_false', decide_eq_true_eq, decide_eq_false_iff_not] at h); (try simp -implicitDefEqProofs only [W3, ↓D3, ↓DP, ↓DC, QX, *, hx, hlt, hw1, d5, d7, c18, hset, hpl, hm1, hm2, hm3, hm4, hc9, bne, append_boolsE, hm0, scals_Choice, scals_bools2, plains_bools2, scals_ints, plains_ints, plan_3_10, plan_3_11, plan_3_19, SH, keep_3_15, leaf_some, isNormal, Int.reduceToNat, id_eq, Int.reduceBEq, Int.reduceLE, Int.reduceLT, Nat.reduceAdd, Nat.reduceEqDiff, Nat.reduceLT, Nat.reduceLeDiff, Nat.reduceMul, Nat.reduceSub, reduceIte])))
                try trace_state
              · rw [hc9] at d7
                simp -implicitDefEqProofs only [W3, ↓D3, ↓DP, ↓DC, QX, hx, hlt, hw1, d7, c18, hset, hpl, hm1, hm2, hm3, hm4, hc9, bne, append_boolsE, hm0, scals_Choice, scals_bools2, plains_bools2, scals_ints, plains_ints, plan_3_10, plan_3_11, plan_3_19, SH, keep_3_15, leaf_some, isNormal, Int.reduceToNat, id_eq, Int.reduceBEq, Int.reduceLE, Int.reduceLT, Nat.reduceAdd, Nat.reduceEqDiff, Nat.reduceLT, Nat.reduceLeDiff, Nat.reduceMul, Nat.reduceSub, reduceIte]
                repeat' (split <;> (rename_i h; (try simp -implicitDefEqProofs only [Bool.not_eq_true', Bool.not_eq_false', decide_eq_true_eq, decide_eq_false_iff_not] at h); (try simp -implicitDefEqProofs only [W3, ↓D3, ↓DP, ↓DC, QX, *, hx, hlt, hw1, d7, c18, hset, hpl, hm1, hm2, hm3, hm4, hc9, bne, append_boolsE, hm0, scals_Choice, scals_bools2, plains_bools2, scals_ints, plains_ints, plan_3_10, plan_3_11, plan_3_19, SH, keep_3_15, leaf_some, isNormal, Int.reduceToNat, id_eq, Int.reduceBEq, Int.reduceLE, Int.reduceLT, Nat.reduceAdd, Nat.reduceEqDiff, Nat.reduceLT, Nat.reduceLeDiff, Nat.reduceMul, Nat.reduceSub, reduceIte])))
                try trace_state
            · simp -implicitDefEqProofs only [firstRegion]
              rw [keep_3_15]
              simp -implicitDefEqProofs only [W3, ↓D3, ↓DA, ↓DP, ↓DC, Int.reduceToNat, id_eq, Int.reduceBEq, Int.reduceLE, Int.reduceLT, SH, Nat.reduceAdd, Nat.reduceEqDiff, Nat.reduceLT, Nat.reduceLeDiff, Nat.reduceMul, Nat.reduceSub, reduceIte]
              try trace_state
            · rfl
        · simp -implicitDefEqProofs only [encR_ne eb] at c12'
          have hgt : decide ((((bn.length : Nat) : Int) : Int) > ((an.length : Nat) : Int)) = false := decide_eq_false (by omega)
          cases ok with
          | true =>
            obtain ⟨hd1, hd2⟩ := hD rfl
            rw [hd1] at c3
            rw [hd2] at c4
            simp -implicitDefEqProofs only [W3, ↓D3, ↓DA, Go.Proofs.Try.f3, c0, c1, c2, c3, c4, c5, c7, c8, c11, c12', c13, c14, c16, c18, c9, hgt, opQ_alloc, gateAt_still, gateT_true, still_alloc, still_callF, runPlan_still, scals_bools2, plains_bools2, scals_ints, plains_ints, scals_Choice, imp_encR, lendO_encR, opS_store, slidP_ptr, away_ptr, away_agg, away_F, away_int, away_bool, away_nils, away_undef, away_sl, away_own, plan_3_10, plan_3_11, plan_3_19, back_rowsN, rows_encR, boxes_encR, ↓isCell_encR, len_rowsN, dedup_rowsN, nodup_rowsN, all_rowsN, any_encR, mapO_encR, ref_encR, scal_encR, small_rowsN, lend_encR4, SH, noref, isRef, isPtr, noPtr, isBad, AV.isUndef, Int.reduceToNat, id_eq, Int.reduceBEq, Int.reduceLE, Int.reduceLT, AV.cells, AV.isCell, Value.cells, Nat.reduceAdd, Nat.reduceEqDiff, Nat.reduceLT, Nat.reduceLeDiff, Nat.reduceMul, Nat.reduceSub, reduceIte]
            clear c0 c1 c2 c7 c8 c9 c11 c12 c12' c13 c14
            rw [ev_loop]
            refine Eq.trans (loop_list (Q := fun (_ : Unit) x => thenEnd E.P _ _ 0 (thenEv E _ _ _ _ _ (outOf 0 x)) = some (.bool true, [])) v (fun _ _ _ => .inr ()) id
              (fun j _ => { sl := [(8, .own 0 false 4 1 (v.map AV.bool)), (9, .ptr 0 0), (11, .own 1 false 3 1 ((depL bn 6).map (AV.int .i64))), (12, .int .i64 (j : Nat))], bx := [(0, [.int .i64 ba, .own 2 false 49 3 (bn.map (Choice.enc true)), .int .i64 br])], nx := 4, nt := 125 }) (fun _ _ => True) () ?_ ?_ (by omega) trivial ?_) ?_
            · intro _ _
              simp -implicitDefEqProofs only [W3, ↓D3, ↓DA, ↓DP, ↓DC, QX, SH, leaf_some, isNormal, Int.reduceToNat, id_eq, Int.reduceBEq, Int.reduceLE, Int.reduceLT, Nat.reduceAdd, Nat.reduceEqDiff, Nat.reduceLT, Nat.reduceLeDiff, Nat.reduceMul, Nat.reduceSub, reduceIte]
              repeat' (split <;> (rename_i h; (try simp -implicitDefEqProofs only [Bool.not_eq_true', Bool.not_eq_false', decide_eq_true_eq, decide_eq_false_iff_not] at h); (try simp -implicitDefEqProofs only [W3, ↓D3, ↓DA, ↓DP, ↓DC, QX, *, SH, leaf_some, isNormal, Int.reduceToNat, id_eq, Int.reduceBEq, Int.reduceLE, Int.reduceLT, Nat.reduceAdd, Nat.reduceEqDiff, Nat.reduceLT, Nat.reduceLeDiff, Nat.reduceMul, Nat.reduceSub, reduceIte])))
            · intro pre x r _ hs' _
              have hvl2 : v.length ≤ 140737488355328 := by omega
              have hx := (at_row hs' hvl2).1; have hc := (at_row hs' hvl2).2.1; have hlt := (at_row hs' hvl2).2.2.1; have hw1 := (at_row hs' hvl2).2.2.2.1; have hl9 := (at_row hs' hvl2).2.2.2.2
              have hp6 : pre.length < 6 := by have := congrArg List.length hs'; simp at this; omega
              clear hs'
              have d7 := c17 ((pre.length : Nat) : Int)
              have hset : ∀ y : Bool, (v.map AV.bool).set pre.length (.bool y) = (v.set pre.length y).map AV.bool := fun y => by rw [List.map_set]
              have d5 := c15 (v.set pre.length (!x)) (by simp; omega)
              have hm0 : v.length ≤ 1048576 := by omega
              have hpl := plains_bools2 v
              have hm1 : (0 + v.length) * 1 ≤ 140737488355328 := by omega
              have hm2 : 0 + v.length ≤ 9223372036854775807 := by omega
              have hm3 : v.length ≤ 140737488355328 := by omega
              have hm4 : v.length ≤ 9223372036854775807 := by omega
              cases hc9 : (depL bn 6).any fun c => c == ((pre.length : Nat) : Int)
              · have hflip : answerOf (⟨ba, bn, br⟩ : Diagram) (v.set pre.length (!x)) = av := by
                  rw [flip_same hb2 (i := pre.length) (dep_not hp6 hc9) (v := v.set pre.length (!x)) (w := v) (fun j hj => by
                    rw [List.getD_eq_getElem?_getD, List.getElem?_set_ne (Ne.symm hj), List.getD_eq_getElem?_getD]), hb6, hav]
                rw [hflip] at d5
                rw [hc9] at d7
                simp -implicitDefEqProofs only [W3, ↓D3, ↓DP, ↓DC, QX, hx, hlt, hw1, d5, d7, c18, hset, hpl, hm1, hm2, hm3, hm4, hc9, bne, append_boolsE, hm0, scals_Choice, scals_bools2, plains_bools2, scals_ints, plains_ints, plan_3_10, plan_3_11, plan_3_19, SH, keep_3_15, leaf_some, isNormal, Int.reduceToNat, id_eq, Int.reduceBEq, Int.reduceLE, Int.reduceLT, Nat.reduceAdd, Nat.reduceEqDiff, Nat.reduceLT, Nat.reduceLeDiff, Nat.reduceMul, Nat.reduceSub, reduceIte]
                repeat' (split <;> (rename_i h; (try simp -implicitDefEqProofs only [Bool.not_eq_true', Bool.not_eq_false', decide_eq_true_eq, decide_eq_false_iff_not] at h); (try simp -implicitDefEqProofs only [W3, ↓D3, ↓DP, ↓DC, QX, *, hx, hlt, hw1, d5, d7, c18, hset, hpl, hm1, hm2, hm3, hm4, hc9, bne, append_boolsE, hm0, scals_Choice, scals_bools2, plains_bools2, scals_ints, plains_ints, plan_3_10, plan_3_11, plan_3_19, SH, keep_3_15, leaf_some, isNormal, Int.reduceToNat, id_eq, Int.reduceBEq, Int.reduceLE, Int.reduceLT, Nat.reduceAdd, Nat.reduceEqDiff, Nat.reduceLT, Nat.reduceLeDiff, Nat.reduceMul, Nat.reduceSub, reduceIte])))
                try trace_state
              · rw [hc9] at d7
                simp -implicitDefEqProofs only [W3, ↓D3, ↓DP, ↓DC, QX, hx, hlt, hw1, d7, c18, hset, hpl, hm1, hm2, hm3, hm4, hc9, bne, append_boolsE, hm0, scals_Choice, scals_bools2, plains_bools2, scals_ints, plains_ints, plan_3_10, plan_3_11, plan_3_19, SH, keep_3_15, leaf_some, isNormal, Int.reduceToNat, id_eq, Int.reduceBEq, Int.reduceLE, Int.reduceLT, Nat.reduceAdd, Nat.reduceEqDiff, Nat.reduceLT, Nat.reduceLeDiff, Nat.reduceMul, Nat.reduceSub, reduceIte]
                repeat' (split <;> (rename_i h; (try simp -implicitDefEqProofs only [Bool.not_eq_true', Bool.not_eq_false', decide_eq_true_eq, decide_eq_false_iff_not] at h); (try simp -implicitDefEqProofs only [W3, ↓D3, ↓DP, ↓DC, QX, *, hx, hlt, hw1, d7, c18, hset, hpl, hm1, hm2, hm3, hm4, hc9, bne, append_boolsE, hm0, scals_Choice, scals_bools2, plains_bools2, scals_ints, plains_ints, plan_3_10, plan_3_11, plan_3_19, SH, keep_3_15, leaf_some, isNormal, Int.reduceToNat, id_eq, Int.reduceBEq, Int.reduceLE, Int.reduceLT, Nat.reduceAdd, Nat.reduceEqDiff, Nat.reduceLT, Nat.reduceLeDiff, Nat.reduceMul, Nat.reduceSub, reduceIte])))
                try trace_state
            · simp -implicitDefEqProofs only [firstRegion]
              rw [keep_3_15]
              simp -implicitDefEqProofs only [W3, ↓D3, ↓DA, ↓DP, ↓DC, Int.reduceToNat, id_eq, Int.reduceBEq, Int.reduceLE, Int.reduceLT, SH, Nat.reduceAdd, Nat.reduceEqDiff, Nat.reduceLT, Nat.reduceLeDiff, Nat.reduceMul, Nat.reduceSub, reduceIte]
              try trace_state
            · rfl
          | false =>
            simp -implicitDefEqProofs only [W3, ↓D3, ↓DA, Go.Proofs.Try.f3, c0, c1, c2, c7, c8, c11, c12', c13, c14, c16, c18, c9, hgt, opQ_alloc, gateAt_still, gateT_true, still_alloc, still_callF, runPlan_still, scals_bools2, plains_bools2, scals_ints, plains_ints, scals_Choice, imp_encR, lendO_encR, opS_store, slidP_ptr, away_ptr, away_agg, away_F, away_int, away_bool, away_nils, away_undef, away_sl, away_own, plan_3_10, plan_3_11, plan_3_19, back_rowsN, rows_encR, boxes_encR, ↓isCell_encR, len_rowsN, dedup_rowsN, nodup_rowsN, all_rowsN, any_encR, mapO_encR, ref_encR, scal_encR, small_rowsN, lend_encR4, SH, noref, isRef, isPtr, noPtr, isBad, AV.isUndef, Int.reduceToNat, id_eq, Int.reduceBEq, Int.reduceLE, Int.reduceLT, AV.cells, AV.isCell, Value.cells, Nat.reduceAdd, Nat.reduceEqDiff, Nat.reduceLT, Nat.reduceLeDiff, Nat.reduceMul, Nat.reduceSub, reduceIte]
            clear c0 c1 c2 c7 c8 c9 c11 c12 c12' c13 c14
            rw [ev_loop]
            refine Eq.trans (loop_list (Q := fun (_ : Unit) x => thenEnd E.P _ _ 0 (thenEv E _ _ _ _ _ (outOf 0 x)) = some (.bool true, [])) v (fun _ _ _ => .inr ()) id
              (fun j _ => { sl := [(8, .own 0 false 4 1 (v.map AV.bool)), (9, .ptr 0 0), (11, .own 1 false 3 1 ((depL bn 6).map (AV.int .i64))), (12, .int .i64 (j : Nat))], bx := [(0, [.int .i64 ba, .own 2 false 49 3 (bn.map (Choice.enc true)), .int .i64 br])], nx := 4, nt := 125 }) (fun _ _ => True) () ?_ ?_ (by omega) trivial ?_) ?_
            · intro _ _
              simp -implicitDefEqProofs only [W3, ↓D3, ↓DA, ↓DP, ↓DC, QX, SH, leaf_some, isNormal, Int.reduceToNat, id_eq, Int.reduceBEq, Int.reduceLE, Int.reduceLT, Nat.reduceAdd, Nat.reduceEqDiff, Nat.reduceLT, Nat.reduceLeDiff, Nat.reduceMul, Nat.reduceSub, reduceIte]
              repeat' (split <;> (rename_i h; (try simp -implicitDefEqProofs only [Bool.not_eq_true', Bool.not_eq_false', decide_eq_true_eq, decide_eq_false_iff_not] at h); (try simp -implicitDefEqProofs only [W3, ↓D3, ↓DA, ↓DP, ↓DC, QX, *, SH, leaf_some, isNormal, Int.reduceToNat, id_eq, Int.reduceBEq, Int.reduceLE, Int.reduceLT, Nat.reduceAdd, Nat.reduceEqDiff, Nat.reduceLT, Nat.reduceLeDiff, Nat.reduceMul, Nat.reduceSub, reduceIte])))
            · intro pre x r _ hs' _
              have hvl2 : v.length ≤ 140737488355328 := by omega
              have hx := (at_row hs' hvl2).1; have hc := (at_row hs' hvl2).2.1; have hlt := (at_row hs' hvl2).2.2.1; have hw1 := (at_row hs' hvl2).2.2.2.1; have hl9 := (at_row hs' hvl2).2.2.2.2
              have hp6 : pre.length < 6 := by have := congrArg List.length hs'; simp at this; omega
              clear hs'
              have d7 := c17 ((pre.length : Nat) : Int)
              have hset : ∀ y : Bool, (v.map AV.bool).set pre.length (.bool y) = (v.set pre.length y).map AV.bool := fun y => by rw [List.map_set]
              have d5 := c15 (v.set pre.length (!x)) (by simp; omega)
              have hm0 : v.length ≤ 1048576 := by omega
              have hpl := plains_bools2 v
              have hm1 : (0 + v.length) * 1 ≤ 140737488355328 := by omega
              have hm2 : 0 + v.length ≤ 9223372036854775807 := by omega
              have hm3 : v.length ≤ 140737488355328 := by omega
              have hm4 : v.length ≤ 9223372036854775807 := by omega
              cases hc9 : (depL bn 6).any fun c => c == ((pre.length : Nat) : Int)
              · have hflip : answerOf (⟨ba, bn, br⟩ : Diagram) (v.set pre.length (!x)) = av := by
                  rw [flip_same hb2 (i := pre.length) (dep_not hp6 hc9) (v := v.set pre.length (!x)) (w := v) (fun j hj => by
                    rw [List.getD_eq_getElem?_getD, List.getElem?_set_ne (Ne.symm hj), List.getD_eq_getElem?_getD]), hb6, hav]
                rw [hflip] at d5
                rw [hc9] at d7
                simp -implicitDefEqProofs only [W3, ↓D3, ↓DP, ↓DC, QX, hx, hlt, hw1, d5, d7, c18, hset, hpl, hm1, hm2, hm3, hm4, hc9, bne, append_boolsE, hm0, scals_Choice, scals_bools2, plains_bools2, scals_ints, plains_ints, plan_3_10, plan_3_11, plan_3_19, SH, keep_3_15, leaf_some, isNormal, Int.reduceToNat, id_eq, Int.reduceBEq, Int.reduceLE, Int.reduceLT, Nat.reduceAdd, Nat.reduceEqDiff, Nat.reduceLT, Nat.reduceLeDiff, Nat.reduceMul, Nat.reduceSub, reduceIte]
                repeat' (split <;> (rename_i h; (try simp -implicitDefEqProofs only [Bool.not_eq_true', Bool.not_eq_false', decide_eq_true_eq, decide_eq_false_iff_not] at h); (try simp -implicitDefEqProofs only [W3, ↓D3, ↓DP, ↓DC, QX, *, hx, hlt, hw1, d5, d7, c18, hset, hpl, hm1, hm2, hm3, hm4, hc9, bne, append_boolsE, hm0, scals_Choice, scals_bools2, plains_bools2, scals_ints, plains_ints, plan_3_10, plan_3_11, plan_3_19, SH, keep_3_15, leaf_some, isNormal, Int.reduceToNat, id_eq, Int.reduceBEq, Int.reduceLE, Int.reduceLT, Nat.reduceAdd, Nat.reduceEqDiff, Nat.reduceLT, Nat.reduceLeDiff, Nat.reduceMul, Nat.reduceSub, reduceIte])))
                try trace_state
              · rw [hc9] at d7
                simp -implicitDefEqProofs only [W3, ↓D3, ↓DP, ↓DC, QX, hx, hlt, hw1, d7, c18, hset, hpl, hm1, hm2, hm3, hm4, hc9, bne, append_boolsE, hm0, scals_Choice, scals_bools2, plains_bools2, scals_ints, plains_ints, plan_3_10, plan_3_11, plan_3_19, SH, keep_3_15, leaf_some, isNormal, Int.reduceToNat, id_eq, Int.reduceBEq, Int.reduceLE, Int.reduceLT, Nat.reduceAdd, Nat.reduceEqDiff, Nat.reduceLT, Nat.reduceLeDiff, Nat.reduceMul, Nat.reduceSub, reduceIte]
                repeat' (split <;> (rename_i h; (try simp -implicitDefEqProofs only [Bool.not_eq_true', Bool.not_eq_false', decide_eq_true_eq, decide_eq_false_iff_not] at h); (try simp -implicitDefEqProofs only [W3, ↓D3, ↓DP, ↓DC, QX, *, hx, hlt, hw1, d7, c18, hset, hpl, hm1, hm2, hm3, hm4, hc9, bne, append_boolsE, hm0, scals_Choice, scals_bools2, plains_bools2, scals_ints, plains_ints, plan_3_10, plan_3_11, plan_3_19, SH, keep_3_15, leaf_some, isNormal, Int.reduceToNat, id_eq, Int.reduceBEq, Int.reduceLE, Int.reduceLT, Nat.reduceAdd, Nat.reduceEqDiff, Nat.reduceLT, Nat.reduceLeDiff, Nat.reduceMul, Nat.reduceSub, reduceIte])))
                try trace_state
            · simp -implicitDefEqProofs only [firstRegion]
              rw [keep_3_15]
              simp -implicitDefEqProofs only [W3, ↓D3, ↓DA, ↓DP, ↓DC, Int.reduceToNat, id_eq, Int.reduceBEq, Int.reduceLE, Int.reduceLT, SH, Nat.reduceAdd, Nat.reduceEqDiff, Nat.reduceLT, Nat.reduceLeDiff, Nat.reduceMul, Nat.reduceSub, reduceIte]
              try trace_state
            · rfl
  · have hl : bs.length ≤ 140737488355328 := hfit.1
    have c0 := r_laws_big (fl := false) (k - 1) (by omega) bs hl
    rw [decide_eq_true (by omega : (1048576 : Int) < (bs.length : Nat))] at c0
    obtain ⟨k, rfl⟩ : ∃ j, k = j + 1 := ⟨k - 1, by omega⟩
    rw [run_succ rfl rfl, body_eq (nt := 125) (fn := Go.Proofs.Try.f3) (by kernel_rfl) rfl rfl rfl rfl rfl rfl rfl rfl]
    simp -implicitDefEqProofs only [Nat.add_sub_cancel] at c0
    simp -implicitDefEqProofs only [W3, ↓D3, ↓DA, ↓DP, ↓DC, Go.Proofs.Try.f3, c0, SH, Int.reduceToNat, id_eq, Int.reduceBEq, Int.reduceLE, Int.reduceLT, Nat.reduceAdd, Nat.reduceEqDiff, Nat.reduceLT, Nat.reduceLeDiff, Nat.reduceMul, Nat.reduceSub, reduceIte]
end Go.Proofs.Ytclpcglblcmcoaa.Flat
