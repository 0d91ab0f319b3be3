/-
An epoch published.
-/
import Derived.Test.YthjnobdeinodfaaEqCE
set_option linter.unusedVariables false
set_option linter.unusedSimpArgs false
set_option maxRecDepth 10000
namespace Go.Proofs.Ythjnobdeinodfaa.Flat
theorem loopL_fin {α β : Type} {step : Nat → α → β → Sum Bool β} {fin : β → Bool} (h : ∀ i x b, ∀ g, step i x b = .inl g → g = false) : ∀ (l : List α) (i : Nat) (b : β), loopL step fin i l b = true → ∃ b', fin b' = true
  | [], _, b, e => ⟨b, e⟩
  | x :: r, i, b, e => by
    simp -implicitDefEqProofs only [loopL] at e
    cases hs : step i x b with
    | inl g => rw [hs] at e; have := h i x b g hs; simp_all
    | inr b' => rw [hs] at e; exact loopL_fin h r (i + 1) b' e
theorem areEpochs_len {l : List Epoch} (h : areEpochs l = true) : l.length ≤ 6 := by
  obtain ⟨_, h⟩ := loopL_fin (fun i x b g hg => by unfold epStep at hg; split at hg <;> simp_all) _ _ _ h
  have := of_decide_eq_true h
  omega
noncomputable def pubE (l : List Epoch) (pairs : List Includes) (rules : List Rule) (t : Int) : Epoch := ⟨IntKind.i64.wrap (newest l + 1), t, pairs, ⟨IntKind.i64.wrap (newest l + 1), rules⟩⟩
noncomputable def pubOut (l : List Epoch) (e : Epoch) : List Epoch := if l.length = 6 then (l ++ [e]).drop 1 else l ++ [e]
noncomputable def pubOk (l : List Epoch) (e : Epoch) : Bool := areEpochs l && areEpochs (pubOut l e)
noncomputable def publish (l : List Epoch) (e : Epoch) : List Epoch := if pubOk l e = true then pubOut l e else l
theorem pubOut_w {l : List Epoch} {e : Epoch} : wl Epoch.w (pubOut l e) ≤ wl Epoch.w l + wl Epoch.w [e] := by
  unfold pubOut
  have h : wl Epoch.w (l ++ [e]) = wl Epoch.w l + wl Epoch.w [e] := wl_append Epoch.w l [e]
  split
  · cases hl : l ++ [e] with
    | nil => simp [wl]
    | cons c r => rw [hl] at h; simp -implicitDefEqProofs only [wl, List.drop_succ_cons, List.drop_zero] at h ⊢; omega
  · omega
theorem publish_w {l : List Epoch} {e : Epoch} : wl Epoch.w (publish l e) ≤ wl Epoch.w l + wl Epoch.w [e] := by
  unfold publish
  split
  · exact pubOut_w
  · omega
theorem pubE_w {l : List Epoch} {pairs : List Includes} {rules : List Rule} {t : Int} : wl Epoch.w [pubE l pairs rules t] = pairs.length + wl Rule.w rules + 1 := by
  simp -implicitDefEqProofs only [wl, pubE, Epoch.w, Policy.w]
  try omega
theorem r_impl_PublishEpoch (k : Nat) (hk : 290271069732864 + 16 ≤ k) (l : List Epoch) (pairs : List Includes) (rules : List Rule) (t : Int) (hw : wl Epoch.w l + wl Epoch.w [pubE l pairs rules t] ≤ 549755813888) :
    run E noExt k 6 [.sl true (l.map (Epoch.enc true)), .sl true (pairs.map (Includes.enc true)), .sl true (rules.map (Rule.enc true)), .int .i64 t] [] =
      some (.tup [.own 0 false 39 5 ((publish l (pubE l pairs rules t)).map Epoch.tencI), .bool (pubOk l (pubE l pairs rules t))], []) := by
  have hs1 := wl_length Epoch.w l
  have hs : l.length ≤ 140737488355328 := by omega
  have hwe := wl_mem (w := Epoch.w) (s := [pubE l pairs rules t]) (List.mem_singleton.2 rfl)
  have c1 := r_impl_NewestNumber (fl := true) (k - 1) (by omega) l hs
  have c2 := r_impl_copyEpochs (k - 1) (by omega) l (by omega)
  have c3 := r_impl_copyEpoch (k - 1) (by omega) (pubE l pairs rules t) (by omega)
  have c4 := r_impl_AreEpochs (fl := true) (k - 1) (by omega) l (by omega)
  have c5 := r_impl_AreEpochs (fl := true) (k - 1) (by omega) (pubOut l (pubE l pairs rules t)) (by have := pubOut_w (l := l) (e := pubE l pairs rules t); omega)
  have hsc := tscals_NR rules
  have hsp := tscals_Includes pairs
  have hsI := tscals_I
  have hm1 : (l.length + 1) * 72 ≤ 140737488355328 := by omega
  have hm2 : l.length + 1 ≤ 9223372036854775807 := by omega
  have hel : [pubE l pairs rules t].map Epoch.tencI = [.agg [.int .i64 (IntKind.i64.wrap (newest l + 1)), .int .i64 t, .tr 56 2 (pairs.map (Includes.enc true)), .int .i64 (IntKind.i64.wrap (newest l + 1)), .tr 64 7 (rules.map Rule.tencN)]] := rfl
  have hap : l.map Epoch.tencI ++ [.agg [.int .i64 (IntKind.i64.wrap (newest l + 1)), .int .i64 t, .tr 56 2 (pairs.map (Includes.enc true)), .int .i64 (IntKind.i64.wrap (newest l + 1)), .tr 64 7 (rules.map Rule.tencN)]] = (l ++ [pubE l pairs rules t]).map Epoch.tencI := by rw [List.map_append, hel]
  have hd1 : ((l ++ [pubE l pairs rules t]).map Epoch.tencI).drop 1 = ((l ++ [pubE l pairs rules t]).drop 1).map Epoch.tencI := by rw [List.map_drop]
  have hlen : (l ++ [pubE l pairs rules t]).length = l.length + 1 := by simp
  obtain ⟨k, rfl⟩ : ∃ j, k = j + 1 := ⟨k - 1, by omega⟩
  rw [run_succ rfl rfl, body_eq (nt := 43) (fn := Go.Proofs.Try.f6) (by kernel_rfl) rfl rfl rfl rfl rfl rfl rfl rfl]
  simp -implicitDefEqProofs only [Nat.add_sub_cancel, enc_Epoch, pubE] at c1 c2 c3 c4 c5
  rcases Classical.em (l.length = 6) with h6 | h6
  · have h7 : (((l.length + 1 : Nat) : Int) == 7) = true := by rw [h6]; rfl
    have hpo : pubOut l (pubE l pairs rules t) = (l ++ [pubE l pairs rules t]).drop 1 := by unfold pubOut; rw [if_pos h6]
    have hb1 : (1 : Int) ≤ ((l.length + 1 : Nat) : Int) := by omega
    rw [← pubE, hpo] at c5
    cases ha : areEpochs l <;> cases hb : areEpochs ((l ++ [pubE l pairs rules t]).drop 1)
    all_goals
      have hpk : pubOk l (pubE l pairs rules t) = (areEpochs l && areEpochs ((l ++ [pubE l pairs rules t]).drop 1)) := by unfold pubOk; rw [hpo]
      rw [ha, hb] at hpk
      rw [ha] at c4
      rw [hb] at c5
      simp -implicitDefEqProofs only [QS, QN, QG, QO, publish, hpk, hpo, Go.Proofs.Try.f6, c1, c2, c3, c4, c5, hsc, hsp, hsI, hap, hd1, hlen, h7, hb1, Int.reduceToNat, tshuts_I, hm1, hm2, SO, SH, frzO, frzE, AV.laid, AV.treeV, AV.treeC, St.laid, spent, AV.subs, AV.shut, AV.scal, AV.scals, evBuildSlice, elemsOf, zeroOK, evAppend, rowOf, noref, isRef, small, import_, AV.any, AV.anys, isPtr, finV, rename, noPtr, isBad, AV.isUndef, St.setRow, AV.shutV, rebuild, isAggV, evBuild, fillCells, evCutOwn, dedup, nodupB, idx, AV.rows, AV.rowss, AV.mapO, AV.mapOs, firstRegion, gc, keptBoxes, keptRows, renameB, AV.boxes, AV.boxess, SN, evCutRow, id_eq, Int.reduceBEq, Int.reduceLE, Int.reduceLT, SS, one_ne2, num_ne2, TIS, MDS, wanted, numbered, plainC, plainS, evEq, eqK, evBox, evAlloc, evStore, evLoad, evFieldAddr, behind, takeVal, AV.cells, AV.isCell, ofCells, ofCell, Value.cells, Nat.reduceAdd, Nat.reduceEqDiff, Nat.reduceLT, Nat.reduceLeDiff, Nat.reduceMul, Nat.reduceSub, reduceIte]
  · have h7 : (((l.length + 1 : Nat) : Int) == 7) = false := beq_eq_false_iff_ne.2 (by omega)
    have hpo : pubOut l (pubE l pairs rules t) = l ++ [pubE l pairs rules t] := by unfold pubOut; rw [if_neg h6]
    rw [← pubE, hpo] at c5
    cases ha : areEpochs l <;> cases hb : areEpochs (l ++ [pubE l pairs rules t])
    all_goals
      have hpk : pubOk l (pubE l pairs rules t) = (areEpochs l && areEpochs (l ++ [pubE l pairs rules t])) := by unfold pubOk; rw [hpo]
      rw [ha, hb] at hpk
      rw [ha] at c4
      rw [hb] at c5
      simp -implicitDefEqProofs only [QS, QN, QG, QO, publish, hpk, hpo, Go.Proofs.Try.f6, c1, c2, c3, c4, c5, hsc, hsp, hsI, hap, hd1, hlen, h7, tshuts_I, hm1, hm2, SO, SH, frzO, frzE, AV.laid, AV.treeV, AV.treeC, St.laid, spent, AV.subs, AV.shut, AV.scal, AV.scals, evBuildSlice, elemsOf, zeroOK, evAppend, rowOf, noref, isRef, small, import_, AV.any, AV.anys, isPtr, finV, rename, noPtr, isBad, AV.isUndef, St.setRow, AV.shutV, rebuild, isAggV, evBuild, fillCells, evCutOwn, dedup, nodupB, idx, AV.rows, AV.rowss, AV.mapO, AV.mapOs, firstRegion, gc, keptBoxes, keptRows, renameB, AV.boxes, AV.boxess, SN, evCutRow, Int.reduceToNat, id_eq, Int.reduceBEq, Int.reduceLE, Int.reduceLT, SS, one_ne2, num_ne2, TIS, MDS, wanted, numbered, plainC, plainS, evEq, eqK, evBox, evAlloc, evStore, evLoad, evFieldAddr, behind, takeVal, AV.cells, AV.isCell, ofCells, ofCell, Value.cells, Nat.reduceAdd, Nat.reduceEqDiff, Nat.reduceLT, Nat.reduceLeDiff, Nat.reduceMul, Nat.reduceSub, reduceIte]
theorem r_spec_PublishEpoch (k : Nat) (hk : 290271069732864 + 16 ≤ k) (l : List Epoch) (pairs : List Includes) (rules : List Rule) (t : Int) (hw : wl Epoch.w l + wl Epoch.w [pubE l pairs rules t] ≤ 549755813888) :
    run E noExt k 16 [.sl true (l.map (Epoch.enc true)), .sl true (pairs.map (Includes.enc true)), .sl true (rules.map (Rule.enc true)), .int .i64 t] [] =
      some (.tup [.own 0 false 39 5 ((publish l (pubE l pairs rules t)).map Epoch.tencS), .bool (pubOk l (pubE l pairs rules t))], []) := by
  have hs1 := wl_length Epoch.w l
  have hs : l.length ≤ 140737488355328 := by omega
  have hwe := wl_mem (w := Epoch.w) (s := [pubE l pairs rules t]) (List.mem_singleton.2 rfl)
  have c1 := r_spec_NewestNumber (fl := true) (k - 1) (by omega) l hs
  have c2 := r_spec_l24All (k - 1) (by omega) l (by omega)
  have c3 := r_spec_l24Copy (k - 1) (by omega) (pubE l pairs rules t) (by omega)
  have c4 := r_spec_AreEpochs (fl := true) (k - 1) (by omega) l (by omega)
  have c5 := r_spec_AreEpochs (fl := true) (k - 1) (by omega) (pubOut l (pubE l pairs rules t)) (by have := pubOut_w (l := l) (e := pubE l pairs rules t); omega)
  have hsc := tscals_NR rules
  have hsp := tscals_Includes pairs
  have hsI := tscals_S
  have hm1 : (l.length + 1) * 72 ≤ 140737488355328 := by omega
  have hm2 : l.length + 1 ≤ 9223372036854775807 := by omega
  have hlen : (l ++ [pubE l pairs rules t]).length = l.length + 1 := by simp
  have hd1 : ((l ++ [pubE l pairs rules t]).map Epoch.tencS).drop 1 = ((l ++ [pubE l pairs rules t]).drop 1).map Epoch.tencS := by rw [List.map_drop]
  obtain ⟨k, rfl⟩ : ∃ j, k = j + 1 := ⟨k - 1, by omega⟩
  rw [run_succ rfl rfl, body_eq (nt := 45) (fn := Go.Proofs.Try.f16) (by kernel_rfl) rfl rfl rfl rfl rfl rfl rfl rfl]
  simp -implicitDefEqProofs only [Nat.add_sub_cancel, enc_Epoch, pubE] at c1 c2 c3 c4 c5
  cases ha : areEpochs l
  · have hpk : pubOk l (pubE l pairs rules t) = false := by unfold pubOk; rw [ha]; rfl
    rw [ha] at c4
    simp -implicitDefEqProofs only [QS, QN, QG, QO, publish, hpk, Go.Proofs.Try.f16, c1, c2, c4, hsI, plan_16_4, SO, SH, frzO, frzE, AV.laid, AV.treeV, AV.treeC, St.laid, spent, AV.subs, AV.shut, AV.scal, AV.scals, evBuildSlice, elemsOf, zeroOK, evAppend, rowOf, noref, isRef, small, import_, AV.any, AV.anys, isPtr, finV, rename, noPtr, isBad, AV.isUndef, St.setRow, AV.shutV, rebuild, isAggV, evBuild, fillCells, evCutOwn, dedup, nodupB, idx, AV.rows, AV.rowss, AV.mapO, AV.mapOs, firstRegion, gc, keptBoxes, keptRows, renameB, AV.boxes, AV.boxess, SN, evCutRow, Int.reduceToNat, id_eq, Int.reduceBEq, Int.reduceLE, Int.reduceLT, SS, one_ne2, num_ne2, TIS, MDS, wanted, numbered, plainC, plainS, evEq, eqK, evBox, evAlloc, evStore, evLoad, evFieldAddr, behind, takeVal, AV.cells, AV.isCell, ofCells, ofCell, Value.cells, Nat.reduceAdd, Nat.reduceEqDiff, Nat.reduceLT, Nat.reduceLeDiff, Nat.reduceMul, Nat.reduceSub, reduceIte]
  have hl6 := areEpochs_len ha
  rw [ha] at c4
  rcases Classical.em (rules.map Rule.tencN = []) with h2 | h2
  · rw [h2] at c3
    simp -implicitDefEqProofs only [rowR_nil] at c3
    have hel : [pubE l pairs rules t].map Epoch.tencS = [.agg [.int .i64 (IntKind.i64.wrap (newest l + 1)), .int .i64 t, .tr 56 2 (pairs.map (Includes.enc true)), .int .i64 (IntKind.i64.wrap (newest l + 1)), .sl true []]] := by simp -implicitDefEqProofs only [List.map_cons, List.map_nil, Epoch.tencS, pubE, h2, cellR_nil]
    have hap : l.map Epoch.tencS ++ [.agg [.int .i64 (IntKind.i64.wrap (newest l + 1)), .int .i64 t, .tr 56 2 (pairs.map (Includes.enc true)), .int .i64 (IntKind.i64.wrap (newest l + 1)), .sl true []]] = (l ++ [pubE l pairs rules t]).map Epoch.tencS := by rw [List.map_append, hel]
    rcases Classical.em (l.length = 6) with h6 | h6
    · have h7 : (6 : Int) < ((l.length + 1 : Nat) : Int) := by omega
      have hpo : pubOut l (pubE l pairs rules t) = (l ++ [pubE l pairs rules t]).drop 1 := by unfold pubOut; rw [if_pos h6]
      have hb1 : (1 : Int) ≤ ((l.length + 1 : Nat) : Int) := by omega
      rw [← pubE, hpo] at c5
      cases hb : areEpochs ((l ++ [pubE l pairs rules t]).drop 1)
      all_goals
        have hpk : pubOk l (pubE l pairs rules t) = (areEpochs l && areEpochs ((l ++ [pubE l pairs rules t]).drop 1)) := by unfold pubOk; rw [hpo]
        rw [ha, hb] at hpk
        rw [hb] at c5
        simp -implicitDefEqProofs only [QS, QN, QG, QO, publish, hpk, hpo, Go.Proofs.Try.f16, c1, c2, c3, c4, c5, hsc, hsp, hsI, hap, hd1, hlen, h7, hb1, Int.reduceToNat, tshuts_S, hm1, hm2, plan_16_4, SO, SH, frzO, frzE, AV.laid, AV.treeV, AV.treeC, St.laid, spent, AV.subs, AV.shut, AV.scal, AV.scals, evBuildSlice, elemsOf, zeroOK, evAppend, rowOf, noref, isRef, small, import_, AV.any, AV.anys, isPtr, finV, rename, noPtr, isBad, AV.isUndef, St.setRow, AV.shutV, rebuild, isAggV, evBuild, fillCells, evCutOwn, dedup, nodupB, idx, AV.rows, AV.rowss, AV.mapO, AV.mapOs, firstRegion, gc, keptBoxes, keptRows, renameB, AV.boxes, AV.boxess, SN, evCutRow, id_eq, Int.reduceBEq, Int.reduceLE, Int.reduceLT, SS, one_ne2, num_ne2, TIS, MDS, wanted, numbered, plainC, plainS, evEq, eqK, evBox, evAlloc, evStore, evLoad, evFieldAddr, behind, takeVal, AV.cells, AV.isCell, ofCells, ofCell, Value.cells, Nat.reduceAdd, Nat.reduceEqDiff, Nat.reduceLT, Nat.reduceLeDiff, Nat.reduceMul, Nat.reduceSub, reduceIte]
    · have h7 : ¬ (6 : Int) < ((l.length + 1 : Nat) : Int) := by omega
      have hpo : pubOut l (pubE l pairs rules t) = l ++ [pubE l pairs rules t] := by unfold pubOut; rw [if_neg h6]
      rw [← pubE, hpo] at c5
      cases hb : areEpochs (l ++ [pubE l pairs rules t])
      all_goals
        have hpk : pubOk l (pubE l pairs rules t) = (areEpochs l && areEpochs (l ++ [pubE l pairs rules t])) := by unfold pubOk; rw [hpo]
        rw [ha, hb] at hpk
        rw [hb] at c5
        simp -implicitDefEqProofs only [QS, QN, QG, QO, publish, hpk, hpo, Go.Proofs.Try.f16, c1, c2, c3, c4, c5, hsc, hsp, hsI, hap, hd1, hlen, h7, tshuts_S, hm1, hm2, plan_16_4, SO, SH, frzO, frzE, AV.laid, AV.treeV, AV.treeC, St.laid, spent, AV.subs, AV.shut, AV.scal, AV.scals, evBuildSlice, elemsOf, zeroOK, evAppend, rowOf, noref, isRef, small, import_, AV.any, AV.anys, isPtr, finV, rename, noPtr, isBad, AV.isUndef, St.setRow, AV.shutV, rebuild, isAggV, evBuild, fillCells, evCutOwn, dedup, nodupB, idx, AV.rows, AV.rowss, AV.mapO, AV.mapOs, firstRegion, gc, keptBoxes, keptRows, renameB, AV.boxes, AV.boxess, SN, evCutRow, Int.reduceToNat, id_eq, Int.reduceBEq, Int.reduceLE, Int.reduceLT, SS, one_ne2, num_ne2, TIS, MDS, wanted, numbered, plainC, plainS, evEq, eqK, evBox, evAlloc, evStore, evLoad, evFieldAddr, behind, takeVal, AV.cells, AV.isCell, ofCells, ofCell, Value.cells, Nat.reduceAdd, Nat.reduceEqDiff, Nat.reduceLT, Nat.reduceLeDiff, Nat.reduceMul, Nat.reduceSub, reduceIte]
  · simp -implicitDefEqProofs only [rowR_ne h2] at c3
    have hel : [pubE l pairs rules t].map Epoch.tencS = [.agg [.int .i64 (IntKind.i64.wrap (newest l + 1)), .int .i64 t, .tr 56 2 (pairs.map (Includes.enc true)), .int .i64 (IntKind.i64.wrap (newest l + 1)), .tr 64 7 (rules.map Rule.tencN)]] := by simp -implicitDefEqProofs only [List.map_cons, List.map_nil, Epoch.tencS, pubE, cellR_ne h2]
    have hap : l.map Epoch.tencS ++ [.agg [.int .i64 (IntKind.i64.wrap (newest l + 1)), .int .i64 t, .tr 56 2 (pairs.map (Includes.enc true)), .int .i64 (IntKind.i64.wrap (newest l + 1)), .tr 64 7 (rules.map Rule.tencN)]] = (l ++ [pubE l pairs rules t]).map Epoch.tencS := by rw [List.map_append, hel]
    rcases Classical.em (l.length = 6) with h6 | h6
    · have h7 : (6 : Int) < ((l.length + 1 : Nat) : Int) := by omega
      have hpo : pubOut l (pubE l pairs rules t) = (l ++ [pubE l pairs rules t]).drop 1 := by unfold pubOut; rw [if_pos h6]
      have hb1 : (1 : Int) ≤ ((l.length + 1 : Nat) : Int) := by omega
      rw [← pubE, hpo] at c5
      cases hb : areEpochs ((l ++ [pubE l pairs rules t]).drop 1)
      all_goals
        have hpk : pubOk l (pubE l pairs rules t) = (areEpochs l && areEpochs ((l ++ [pubE l pairs rules t]).drop 1)) := by unfold pubOk; rw [hpo]
        rw [ha, hb] at hpk
        rw [hb] at c5
        simp -implicitDefEqProofs only [QS, QN, QG, QO, publish, hpk, hpo, Go.Proofs.Try.f16, c1, c2, c3, c4, c5, hsc, hsp, hsI, hap, hd1, hlen, h7, hb1, Int.reduceToNat, tshuts_S, hm1, hm2, plan_16_4, SO, SH, frzO, frzE, AV.laid, AV.treeV, AV.treeC, St.laid, spent, AV.subs, AV.shut, AV.scal, AV.scals, evBuildSlice, elemsOf, zeroOK, evAppend, rowOf, noref, isRef, small, import_, AV.any, AV.anys, isPtr, finV, rename, noPtr, isBad, AV.isUndef, St.setRow, AV.shutV, rebuild, isAggV, evBuild, fillCells, evCutOwn, dedup, nodupB, idx, AV.rows, AV.rowss, AV.mapO, AV.mapOs, firstRegion, gc, keptBoxes, keptRows, renameB, AV.boxes, AV.boxess, SN, evCutRow, id_eq, Int.reduceBEq, Int.reduceLE, Int.reduceLT, SS, one_ne2, num_ne2, TIS, MDS, wanted, numbered, plainC, plainS, evEq, eqK, evBox, evAlloc, evStore, evLoad, evFieldAddr, behind, takeVal, AV.cells, AV.isCell, ofCells, ofCell, Value.cells, Nat.reduceAdd, Nat.reduceEqDiff, Nat.reduceLT, Nat.reduceLeDiff, Nat.reduceMul, Nat.reduceSub, reduceIte]
    · have h7 : ¬ (6 : Int) < ((l.length + 1 : Nat) : Int) := by omega
      have hpo : pubOut l (pubE l pairs rules t) = l ++ [pubE l pairs rules t] := by unfold pubOut; rw [if_neg h6]
      rw [← pubE, hpo] at c5
      cases hb : areEpochs (l ++ [pubE l pairs rules t])
      all_goals
        have hpk : pubOk l (pubE l pairs rules t) = (areEpochs l && areEpochs (l ++ [pubE l pairs rules t])) := by unfold pubOk; rw [hpo]
        rw [ha, hb] at hpk
        rw [hb] at c5
        simp -implicitDefEqProofs only [QS, QN, QG, QO, publish, hpk, hpo, Go.Proofs.Try.f16, c1, c2, c3, c4, c5, hsc, hsp, hsI, hap, hd1, hlen, h7, tshuts_S, hm1, hm2, plan_16_4, SO, SH, frzO, frzE, AV.laid, AV.treeV, AV.treeC, St.laid, spent, AV.subs, AV.shut, AV.scal, AV.scals, evBuildSlice, elemsOf, zeroOK, evAppend, rowOf, noref, isRef, small, import_, AV.any, AV.anys, isPtr, finV, rename, noPtr, isBad, AV.isUndef, St.setRow, AV.shutV, rebuild, isAggV, evBuild, fillCells, evCutOwn, dedup, nodupB, idx, AV.rows, AV.rowss, AV.mapO, AV.mapOs, firstRegion, gc, keptBoxes, keptRows, renameB, AV.boxes, AV.boxess, SN, evCutRow, Int.reduceToNat, id_eq, Int.reduceBEq, Int.reduceLE, Int.reduceLT, SS, one_ne2, num_ne2, TIS, MDS, wanted, numbered, plainC, plainS, evEq, eqK, evBox, evAlloc, evStore, evLoad, evFieldAddr, behind, takeVal, AV.cells, AV.isCell, ofCells, ofCell, Value.cells, Nat.reduceAdd, Nat.reduceEqDiff, Nat.reduceLT, Nat.reduceLeDiff, Nat.reduceMul, Nat.reduceSub, reduceIte]
end Go.Proofs.Ythjnobdeinodfaa.Flat
