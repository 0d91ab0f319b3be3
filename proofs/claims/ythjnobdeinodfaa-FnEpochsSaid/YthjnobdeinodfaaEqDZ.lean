/-
The draws for the law of epochs.
-/
import Derived.Test.YthjnobdeinodfaaEqEM
set_option linter.unusedVariables false
set_option linter.unusedSimpArgs false
set_option maxRecDepth 10000
namespace Go.Proofs.Ythjnobdeinodfaa.Flat
theorem frD_rows {ret : AV} {args : List AV} (h : args.flatMap AV.rows = []) : frD ret args = [] := by unfold frD; rw [h]; split <;> rfl
theorem frD_noref {ret : AV} {args : List AV} (h : noref ret = true) : frD ret args = [] := by unfold frD; rw [if_pos h]
theorem bin_rem40 {P : Program} {t : TypeId} {a : Int} : evBin2 P .rem t (.int .i64 a) (.int .i64 40) = some (.int .i64 (a.tmod 40)) := rfl
theorem evCall_give1 {Φ : Phi} {nid n : Nat} {x : AV} {dst : Option Nat} {st : St} : evCall Φ [.give] nid n [x] [] dst st = evGive Φ nid n [(.give, x)] dst st := rfl
/-- What is known of a drawn list of epochs. -/
structure Drawn (l : List Epoch) (j : Nat) : Prop where
  are : areEpochs l = true
  len : l.length ≤ j
  at_ : ∀ e ∈ l, e.at_ ≤ 30
  num : newest l ≤ j
theorem Drawn.nil : Drawn [] 0 := ⟨areEpochs_iff.2 ⟨by simp, fun j e h => by simp at h⟩, by simp, fun e h => by simp at h, by simp [newest]⟩
theorem Drawn.mono {l : List Epoch} {j m : Nat} (h : Drawn l j) (hm : j ≤ m) : Drawn l m := ⟨h.are, by have := h.len; omega, h.at_, by have := h.num; omega⟩
theorem newest_nn {l : List Epoch} (h : areEpochs l = true) : 0 ≤ newest l := by
  have := numberAt_le h (-1)
  rcases numberAt_cases l (-1) with h0 | ⟨x, hx, _, h2⟩
  · omega
  · have := mem_num h hx; omega
theorem Drawn.pub {l : List Epoch} {j : Nat} (h : Drawn l j) (hj : j ≤ 100) {pairs : List Includes} {rules : List Rule} {t : Int} (ht : t ≤ 30) : Drawn (publish l (pubE l pairs rules t)) (j + 1) := by
  unfold publish
  split
  · rename_i hp
    unfold pubOk at hp
    rw [Bool.and_eq_true] at hp
    have hn := newest_nn h.are
    have hnum := h.num
    have hw : IntKind.i64.wrap (newest l + 1) = newest l + 1 := IntWalk.i64_in _ (by omega)
    refine ⟨hp.2, ?_, ?_, ?_⟩
    · have := h.len
      unfold pubOut
      split <;> simp <;> omega
    · intro e he
      obtain ⟨l0, h0, _⟩ := pubOut_last l (pubE l pairs rules t)
      have hsub : ∀ x ∈ pubOut l (pubE l pairs rules t), x ∈ l ∨ x = pubE l pairs rules t := by
        intro x hx
        unfold pubOut at hx
        split at hx
        · have := List.mem_of_mem_drop hx
          simpa using this
        · simpa using hx
      rcases hsub e he with h1 | h1
      · exact h.at_ e h1
      · subst h1; exact ht
    · rw [newest_pubOut]
      simp -implicitDefEqProofs only [pubE, hw]
      omega
  · exact h.mono (by omega)
theorem epochsN_at {bs : List Int} {b : List Epoch × Int × Nat × Int} (hb : b.2.1 = 0) : ∀ n : Nat, n ≤ 4 → 0 ≤ (epochsN bs b n).2.1 ∧ (epochsN bs b n).2.1 ≤ 7 * (n : Int)
  | 0, _ => by simp [epochsN, hb]
  | n + 1, hn => by
    have h1 := epochsN_at (bs := bs) hb n (by omega)
    have h2 := below_lt bs (n := 8) (by omega) (by omega) (epochsN bs b n).2.2.1 (epochsN bs b n).2.2.2
    simp -implicitDefEqProofs only [epochsN, epochStep]
    rw [IntWalk.i64_in _ (by omega)]
    omega
theorem epochsN_drawn {bs : List Int} {b : List Epoch × Int × Nat × Int} (hb : b.2.1 = 0) (hd : Drawn b.1 0) : ∀ n : Nat, n ≤ 4 → Drawn (epochsN bs b n).1 n
  | 0, _ => hd
  | n + 1, hn => by
    have h1 := epochsN_drawn hb hd (bs := bs) n (by omega)
    have h2 := epochsN_at (bs := bs) hb (n + 1) hn
    simp -implicitDefEqProofs only [epochsN, epochStep] at h2 ⊢
    exact h1.pub (by omega) (by omega)
theorem listD_drawn (bs : List Int) (i : Nat) (h : Int) : Drawn (listD bs i h).1 3 := by
  have := below_lt bs (n := 4) (by omega) (by omega) i h
  have h1 := epochsN_drawn (bs := bs) (b := ([], 0, belowI bs 4 i, belowH 4 h)) rfl Drawn.nil (below1 bs 4 i h).toNat (by omega)
  exact h1.mono (by omega)
/-- Published further until there are six. -/
noncomputable def fillN (l : List Epoch) : Nat → List Epoch
  | 0 => l
  | n + 1 => publish (fillN l n) (pubE (fillN l n) [] [] 30)
theorem arePairs_nil : arePairs [] = true := by simp [arePairs]
theorem fillE {l : List Epoch} {j : Nat} (h : Drawn l j) (hj : j ≤ 50) (hl : l.length < 6) : publish l (pubE l [] [] 30) = l ++ [pubE l [] [] 30] := by
  have hn := newest_nn h.are
  have hnum := h.num
  have hw : IntKind.i64.wrap (newest l + 1) = newest l + 1 := IntWalk.i64_in _ (by omega)
  have hne : l.length ≠ 6 := by omega
  have ho : pubOut l (pubE l [] [] 30) = l ++ [pubE l [] [] 30] := if_neg hne
  have he : isEpoch (pubE l [] [] 30) = true := by
    simp -implicitDefEqProofs only [isEpoch, pubE, hw, arePairs_nil, isPolicy, inR, isT, List.all_nil, List.length_nil, Bool.and_true, Bool.true_and, beq_self_eq_true, Bool.and_eq_true, decide_eq_true_eq]
    omega
  have hp : pubOk l (pubE l [] [] 30) = true := by
    unfold pubOk
    rw [h.are, ho, Bool.true_and]
    refine areEpochs_snoc h.are hl he fun a ha => ?_
    have hm := List.mem_of_getLast? ha
    refine ⟨?_, h.at_ a hm⟩
    have : newest l = a.number := by simp [newest, ha]
    simp -implicitDefEqProofs only [pubE, hw]
    omega
  unfold publish
  rw [if_pos hp, ho]
theorem fillN_drawn {l : List Epoch} {j : Nat} (h : Drawn l j) : ∀ n : Nat, j + n ≤ 50 → Drawn (fillN l n) (j + n)
  | 0, _ => h
  | n + 1, hn => (fillN_drawn h n (by omega)).pub (by omega) (by omega)
theorem fillN_len {l : List Epoch} {j : Nat} (h : Drawn l j) : ∀ n : Nat, j + n ≤ 50 → l.length + n ≤ 6 → (fillN l n).length = l.length + n
  | 0, _, _ => rfl
  | n + 1, hn, hl => by
    have h1 := fillN_len h n (by omega) (by omega)
    simp -implicitDefEqProofs only [fillN]
    rw [fillE (fillN_drawn h n (by omega)) (by omega) (by omega)]
    simp -implicitDefEqProofs only [List.length_append, h1, List.length_singleton]
    omega
theorem fillN_w {l : List Epoch} : ∀ n : Nat, wl Epoch.w (fillN l n) ≤ wl Epoch.w l + n
  | 0 => by simp [fillN]
  | n + 1 => by
    have h1 := fillN_w (l := l) n
    simp -implicitDefEqProofs only [fillN]
    refine Nat.le_trans publish_w ?_
    rw [pubE_w]
    simp -implicitDefEqProofs only [List.length_nil, wl]
    omega
def arePairs1 (bs : List Int) (P : Draw (List Includes)) : Bool → Draw (List Includes)
  | true => (P.1 ++ [⟨IntKind.i64.wrap (below1 bs 7 P.2.1 P.2.2 - 1), below1 bs 7 (belowI bs 7 P.2.1) (belowH 7 P.2.2)⟩], belowI bs 7 (belowI bs 7 P.2.1), belowH 7 (belowH 7 P.2.2))
  | false => P
def arePairs0 (bs : List Int) : Draw (List Includes) := let P := pairsD bs 0 (hashOf bs)
  arePairs1 bs (P.1, belowI bs 2 P.2.1, belowH 2 P.2.2) (below1 bs 2 P.2.1 P.2.2 == 0)
def arePairs2 (P : List Includes) : Bool → List Includes
  | true => P ++ List.replicate 9 ⟨5, 1⟩
  | false => P
def arePairsD (bs : List Int) : List Includes := arePairs2 (arePairs0 bs).1 (below1 bs 10 (arePairs0 bs).2.1 (arePairs0 bs).2.2 == 0)
theorem arePairs0_len (bs : List Int) : (arePairs0 bs).1.length ≤ 4 := by
  have := pairsD_len (bs := bs) (i := 0) (h := hashOf bs)
  unfold arePairs0 arePairs1
  simp only
  split <;> simp <;> omega
theorem arePairsD_len (bs : List Int) : (arePairsD bs).length ≤ 13 := by
  have := arePairs0_len bs
  unfold arePairsD arePairs2
  split <;> simp <;> omega
theorem r_spec_DrawNumberAt {fl : Bool} (k : Nat) (hk : 290271069732864 + 20 ≤ k) (bs : List Int) (hb : bs.length ≤ 140737488355328) :
    run E noExt k 11 [.sl fl (bs.map byteA)] [] = some (.tup [.own 0 false 39 5 ((listD bs 0 (hashOf bs)).1.map Epoch.tencS), .int .i64 (timeD bs (listD bs 0 (hashOf bs)).2.1 (listD bs 0 (hashOf bs)).2.2).1], []) := by
  have c1 := r_spec_l1New (fl := fl) (k - 1) (by omega) bs hb
  have c2 := fun i h => r_spec_l24List (fl := fl) (k - 1) (by omega) bs hb i h
  have c3 := fun i h => r_spec_l4Time (fl := fl) (k - 1) (by omega) bs hb i h
  obtain ⟨k, rfl⟩ : ∃ j, k = j + 1 := ⟨k - 1, by omega⟩
  rw [run_succ rfl rfl, body_eq (nt := 13) (fn := Go.Proofs.Try.f11) (by kernel_rfl) rfl rfl rfl rfl rfl rfl rfl rfl]
  simp -implicitDefEqProofs only [Nat.add_sub_cancel] at c1 c2 c3
  have c4 := c2 0 (hashOf bs)
  rw [show ((0 : Nat) : Int) = 0 from rfl] at c4
  generalize listD bs 0 (hashOf bs) = X at *
  simp -implicitDefEqProofs only [QS, QN, QG, QO, Go.Proofs.Try.f11, evCall_give1, c1, c4, c3, tscals_S, rows_rowQ, boxes_rowQ, ↓isCell_rowQ, cells_rowQ, dedup_rowsQ, nodup_rowsQ, all_rowsQ, allT_rowsQ, small_rowsQ, bad_rowQ, ptr_rowQ, away_rowQ, mapO_rowQ, imp_rowQ, lend_rowQ, shut_rowQ, mem_rowsQ, calm_rowQ, allD_rowsQ, allE_rowsQ, frzD_rowQ, frzB_rowQ, freezeD_all, rows_argsR, boxes_argsR, ↓isCell_argsR, cells_argsR, cellsX_agg, cellsX_int, cellsX_bool, cellsX_str, cellsX_nils, cellsX_sl, cellsX_own, cellsX_ptr, cellsX_cptr, cellsX_undef, dedup_rowsD, nodup_rowsD, all_rowsD, all_rowsT, small_rowsD, bad_argsR, ptr_argsR, mapO_argsR, imp_argsR, lend_argsR4, shut_argsR, mem_rowsD, allmem_rowsD, after_D, freeze_ite, frzB_argsR, away_argsR, calm_argsR, opS_call, slidM_io1, slidM_io2, away_F, away_ptr, away_int, away_bool, away_nils, away_undef, away_sl, away_agg, away_own, look_nil, evCall_io1, evCall_io2, evCall_io3, evCall_io4, finJ_1, finJ_2, finJ_3, finJ_4, finJ_int, finJ_bool, finJ_str, finJ_nils, finJ_agg, finJ_own, finJ_sl, finJ_tup, look_cons, reduceCtorEq, evCall_mutOwn, evCall_mutAgg, evGive, giveRows, ioBoxes, mutArgs, roArgs, handArg, mutSlots, isPtrB, pairs, pairss, back_nil, back_cons, backO, backE, setBoxes, importB, mode_mut, mode_give, mode_io, mode_ro, List.zip_cons_cons, List.zip_nil_left, List.zip_nil_right, ite_self, ite_true, ite_false, finish_give, finish_mut1, finish_io0, finish_io2, finish_io3, finish_ioc, finI, finC, finW_ptr, SO, SH, frzO, frzE, AV.laid, AV.treeV, AV.treeC, St.laid, spent, AV.subs, AV.shut, AV.scal, AV.scals, evBuildSlice, elemsOf, zeroOK, noref, isRef, small, import_, AV.any, AV.anys, isPtr, finV, rename, noPtr, isBad, AV.isUndef, St.setRow, AV.shutV, rebuild, isAggV, evBuild, fillCells, evCutOwn, dedup, nodupB, idx, AV.rows, AV.rowss, AV.mapO, AV.mapOs, firstRegion, gc, keptBoxes, keptRows, renameB, AV.boxes, AV.boxess, SN, evCutRow, Int.reduceToNat, id_eq, Int.reduceBEq, Int.reduceLE, Int.reduceLT, SS, one_ne2, num_ne2, TIS, MDS, wanted, numbered, plainC, plainS, evEq, eqK, evBox, evAlloc, evStore, evLoad, evFieldAddr, behind, takeVal, AV.isCell, ofCells, ofCell, Value.cells, Nat.reduceAdd, Nat.reduceEqDiff, Nat.reduceLT, Nat.reduceLeDiff, Nat.reduceMul, Nat.reduceSub, reduceIte]
theorem r_spec_DrawArePairs {fl : Bool} (k : Nat) (hk : 290271069732864 + 20 ≤ k) (bs : List Int) (hb : bs.length ≤ 140737488355328) :
    run E noExt k 17 [.sl fl (bs.map byteA)] [] = some (.own 0 false 56 2 ((arePairsD bs).map (Includes.enc true)), []) := by
  have c1 := r_spec_l1New (fl := fl) (k - 1) (by omega) bs hb
  have c2 := fun i h => r_spec_l14Pairs (fl := fl) (k - 1) (by omega) bs hb i h
  have c3 := fun n i h => r_spec_l1Once (fl := fl) (k - 1) (by omega) bs hb n i h
  have c5 := fun n i h => r_spec_l1Below (fl := fl) (k - 1) (by omega) bs hb n i h
  have hln := pairsD_len (bs := bs) (i := 0) (h := hashOf bs)
  have hlnP := arePairs0_len bs
  have hpl : ∀ x y : Int, plains [.agg [.int .i64 x, .int .i64 y]] = true := fun x y => rfl
  obtain ⟨k, rfl⟩ : ∃ j, k = j + 1 := ⟨k - 1, by omega⟩
  rw [run_succ rfl rfl, body_eq (nt := 32) (fn := Go.Proofs.Try.f17) (by kernel_rfl) rfl rfl rfl rfl rfl rfl rfl rfl]
  simp -implicitDefEqProofs only [Nat.add_sub_cancel] at c1 c2 c3 c5
  have c4 := c2 0 (hashOf bs)
  rw [show ((0 : Nat) : Int) = 0 from rfl] at c4
  unfold arePairsD
  unfold arePairs0 at hlnP ⊢
  simp only at hlnP ⊢
  generalize pairsD bs 0 (hashOf bs) = X at *
  have hm1 : (X.1.length + 1) * 16 ≤ 140737488355328 := by omega
  have hm2 : X.1.length + 1 ≤ 9223372036854775807 := by omega
  have hm9 : X.1.length ≤ 9223372036854775806 := by omega
  cases hd : below1 bs 2 X.2.1 X.2.2 == 0
  · simp -implicitDefEqProofs only [arePairs1] at hlnP ⊢
    cases he : below1 bs 10 (belowI bs 2 X.2.1) (belowH 2 X.2.2) == 0
    · simp -implicitDefEqProofs only [QS, QN, QG, QO, arePairs2, hd, he, hpl, hm1, hm2, hm9, List.map_append, enc_Includes, Go.Proofs.Try.f17, evCall_give1, c1, c3, c4, c5, look_nil, evCall_io1, evCall_io2, evCall_io3, evCall_io4, finJ_1, finJ_2, finJ_3, finJ_4, finJ_int, finJ_bool, finJ_str, finJ_nils, finJ_agg, finJ_own, finJ_sl, finJ_tup, look_cons, reduceCtorEq, evCall_mutOwn, evCall_mutAgg, evGive, giveRows, ioBoxes, mutArgs, roArgs, handArg, mutSlots, isPtrB, pairs, pairss, back_nil, back_cons, backO, backE, setBoxes, importB, mode_mut, mode_give, mode_io, mode_ro, List.zip_cons_cons, List.zip_nil_left, List.zip_nil_right, ite_self, ite_true, ite_false, finish_give, finish_mut1, finish_io0, finish_io2, finish_io3, finish_ioc, finI, finC, finW_ptr, SO, SH, frzO, frzE, AV.laid, AV.treeV, AV.treeC, St.laid, spent, AV.subs, AV.shut, AV.scal, AV.scals, evBuildSlice, elemsOf, zeroOK, evAppend, rowOf, noref, isRef, small, import_, AV.any, AV.anys, isPtr, finV, rename, noPtr, isBad, AV.isUndef, St.setRow, AV.shutV, rebuild, isAggV, evBuild, fillCells, evCutOwn, dedup, nodupB, idx, AV.rows, AV.rowss, AV.mapO, AV.mapOs, firstRegion, gc, keptBoxes, keptRows, renameB, AV.boxes, AV.boxess, SN, evCutRow, Int.reduceToNat, id_eq, Int.reduceBEq, Int.reduceLE, Int.reduceLT, SS, one_ne2, num_ne2, TIS, MDS, wanted, numbered, plainC, plainS, evEq, eqK, evBox, evAlloc, evStore, evLoad, evFieldAddr, behind, takeVal, AV.cells, AV.isCell, ofCells, ofCell, Value.cells, Nat.reduceAdd, Nat.reduceEqDiff, Nat.reduceLT, Nat.reduceLeDiff, Nat.reduceMul, Nat.reduceSub, reduceIte]
      try trace_state
    · simp -implicitDefEqProofs only [QS, QN, QG, QO, arePairs2, hd, he, hpl, hm1, hm2, hm9, Go.Proofs.Try.f17, evCall_give1, c1, c3, c4, c5, look_nil, evCall_io1, evCall_io2, evCall_io3, evCall_io4, finJ_1, finJ_2, finJ_3, finJ_4, finJ_int, finJ_bool, finJ_str, finJ_nils, finJ_agg, finJ_own, finJ_sl, finJ_tup, look_cons, reduceCtorEq, evCall_mutOwn, evCall_mutAgg, evGive, giveRows, ioBoxes, mutArgs, roArgs, handArg, mutSlots, isPtrB, pairs, pairss, back_nil, back_cons, backO, backE, setBoxes, importB, mode_mut, mode_give, mode_io, mode_ro, List.zip_cons_cons, List.zip_nil_left, List.zip_nil_right, ite_self, ite_true, ite_false, finish_give, finish_mut1, finish_io0, finish_io2, finish_io3, finish_ioc, finI, finC, finW_ptr, SO, SH, frzO, frzE, AV.laid, AV.treeV, AV.treeC, St.laid, spent, AV.subs, AV.shut, AV.scal, AV.scals, evBuildSlice, elemsOf, zeroOK, evAppend, rowOf, noref, isRef, small, import_, AV.any, AV.anys, isPtr, finV, rename, noPtr, isBad, AV.isUndef, St.setRow, AV.shutV, rebuild, isAggV, evBuild, fillCells, evCutOwn, dedup, nodupB, idx, AV.rows, AV.rowss, AV.mapO, AV.mapOs, firstRegion, gc, keptBoxes, keptRows, renameB, AV.boxes, AV.boxess, SN, evCutRow, Int.reduceToNat, id_eq, Int.reduceBEq, Int.reduceLE, Int.reduceLT, SS, one_ne2, num_ne2, TIS, MDS, wanted, numbered, plainC, plainS, evEq, eqK, evBox, evAlloc, evStore, evLoad, evFieldAddr, behind, takeVal, AV.cells, AV.isCell, ofCells, ofCell, Value.cells, Nat.reduceAdd, Nat.reduceEqDiff, Nat.reduceLT, Nat.reduceLeDiff, Nat.reduceMul, Nat.reduceSub, reduceIte]
      rw [ev_loop]
      refine Eq.trans (loop_list (Q := fun (_ : Unit) x => thenEnd E.P _ _ 0 (thenEv E _ _ _ _ _ (outOf 0 x)) = some (.own 0 false 56 2 ((X.1 ++ List.replicate 9 (⟨5, 1⟩ : Includes)).map (Includes.enc true)), [])) (List.range 9) (fun _ _ _ => .inr ()) id
        (fun j _ => { sl := [(4, .own 0 false 56 2 ((X.1 ++ List.replicate j (⟨5, 1⟩ : Includes)).map (Includes.enc true))), (5, .int .i64 (j : Nat))], bx := [], nx := 1, nt := 32 }) (fun _ _ => True) () ?_ ?_ (by simp; omega) trivial ?_) ?_
      · intro _ _
        rw [List.length_range]
        have h0 : ¬ ((9 : Nat) : Int) < 9 := by omega
        simp -implicitDefEqProofs only [QS, QN, QG, QO, h0, look_nil, evCall_io1, evCall_io2, evCall_io3, evCall_io4, finJ_1, finJ_2, finJ_3, finJ_4, finJ_int, finJ_bool, finJ_str, finJ_nils, finJ_agg, finJ_own, finJ_sl, finJ_tup, look_cons, reduceCtorEq, evCall_mutOwn, evCall_mutAgg, evGive, giveRows, ioBoxes, mutArgs, roArgs, handArg, mutSlots, isPtrB, pairs, pairss, back_nil, back_cons, backO, backE, setBoxes, importB, mode_mut, mode_give, mode_io, mode_ro, List.zip_cons_cons, List.zip_nil_left, List.zip_nil_right, ite_self, ite_true, ite_false, finish_give, finish_mut1, finish_io0, finish_io2, finish_io3, finish_ioc, finI, finC, finW_ptr, SO, SH, frzO, frzE, AV.laid, AV.treeV, AV.treeC, St.laid, spent, AV.subs, AV.shut, AV.scal, AV.scals, evBuildSlice, elemsOf, zeroOK, evAppend, rowOf, noref, isRef, small, import_, AV.any, AV.anys, isPtr, finV, rename, noPtr, isBad, AV.isUndef, St.setRow, AV.shutV, rebuild, isAggV, evBuild, fillCells, evCutOwn, dedup, nodupB, idx, AV.rows, AV.rowss, AV.mapO, AV.mapOs, firstRegion, gc, keptBoxes, keptRows, renameB, AV.boxes, AV.boxess, leaf_some, isNormal, ifEv_bool, gate_bool, gateP_bool, gateQ_bool, pick_bool, SN, evCutRow, Int.reduceToNat, id_eq, Int.reduceBEq, Int.reduceLE, Int.reduceLT, SS, one_ne2, num_ne2, TIS, MDS, wanted, numbered, plainC, plainS, evEq, eqK, evBox, evAlloc, evStore, evLoad, evFieldAddr, behind, takeVal, AV.cells, AV.isCell, ofCells, ofCell, Value.cells, Nat.reduceAdd, Nat.reduceEqDiff, Nat.reduceLT, Nat.reduceLeDiff, Nat.reduceMul, Nat.reduceSub, reduceIte]
        repeat' (split <;> (rename_i h; (try simp -implicitDefEqProofs only [Bool.not_eq_true', Bool.not_eq_false', decide_eq_true_eq, decide_eq_false_iff_not] at h); (try simp -implicitDefEqProofs only [QS, QN, QG, QO, *, h0, look_nil, evCall_io1, evCall_io2, evCall_io3, evCall_io4, finJ_1, finJ_2, finJ_3, finJ_4, finJ_int, finJ_bool, finJ_str, finJ_nils, finJ_agg, finJ_own, finJ_sl, finJ_tup, look_cons, reduceCtorEq, evCall_mutOwn, evCall_mutAgg, evGive, giveRows, ioBoxes, mutArgs, roArgs, handArg, mutSlots, isPtrB, pairs, pairss, back_nil, back_cons, backO, backE, setBoxes, importB, mode_mut, mode_give, mode_io, mode_ro, List.zip_cons_cons, List.zip_nil_left, List.zip_nil_right, ite_self, ite_true, ite_false, finish_give, finish_mut1, finish_io0, finish_io2, finish_io3, finish_ioc, finI, finC, finW_ptr, SO, SH, frzO, frzE, AV.laid, AV.treeV, AV.treeC, St.laid, spent, AV.subs, AV.shut, AV.scal, AV.scals, evBuildSlice, elemsOf, zeroOK, evAppend, rowOf, noref, isRef, small, import_, AV.any, AV.anys, isPtr, finV, rename, noPtr, isBad, AV.isUndef, St.setRow, AV.shutV, rebuild, isAggV, evBuild, fillCells, evCutOwn, dedup, nodupB, idx, AV.rows, AV.rowss, AV.mapO, AV.mapOs, firstRegion, gc, keptBoxes, keptRows, renameB, AV.boxes, AV.boxess, leaf_some, isNormal, ifEv_bool, gate_bool, gateP_bool, gateQ_bool, pick_bool, SN, evCutRow, Int.reduceToNat, id_eq, Int.reduceBEq, Int.reduceLE, Int.reduceLT, SS, one_ne2, num_ne2, TIS, MDS, wanted, numbered, plainC, plainS, evEq, eqK, evBox, evAlloc, evStore, evLoad, evFieldAddr, behind, takeVal, AV.cells, AV.isCell, ofCells, ofCell, Value.cells, Nat.reduceAdd, Nat.reduceEqDiff, Nat.reduceLT, Nat.reduceLeDiff, Nat.reduceMul, Nat.reduceSub, reduceIte])))
        try trace_state
      · intro pre z r _ hs' _
        have hpl9 : pre.length < 9 := by have := congrArg List.length hs'; simp at this; omega
        clear hs'
        have h0 : ((pre.length : Nat) : Int) < 9 := by omega
        have hw1 : IntKind.i64.wrap (((pre.length : Nat) : Int) + 1) = ((pre.length + 1 : Nat) : Int) := by rw [IntWalk.i64_in _ (by omega)]; omega
        have hn : (X.1 ++ List.replicate pre.length (⟨5, 1⟩ : Includes)).length ≤ 100 := by simp; omega
        have hrs : ∀ W : List Includes, W ++ List.replicate (pre.length + 1) (⟨5, 1⟩ : Includes) = (W ++ List.replicate pre.length (⟨5, 1⟩ : Includes)) ++ [⟨5, 1⟩] := fun W => by rw [List.replicate_succ', ← List.append_assoc]
        simp -implicitDefEqProofs only [hrs]
        clear hrs
        generalize X.1 ++ List.replicate pre.length (⟨5, 1⟩ : Includes) = Y at *
        have hn1 : (Y.length + 1) * 16 ≤ 140737488355328 := by omega
        have hn2 : Y.length + 1 ≤ 9223372036854775807 := by omega
        have hn9 : Y.length ≤ 9223372036854775806 := by omega
        simp -implicitDefEqProofs only [QS, QN, QG, QO, h0, hw1, hpl, hn9, hn1, hn2, List.map_append, enc_Includes, look_nil, evCall_io1, evCall_io2, evCall_io3, evCall_io4, finJ_1, finJ_2, finJ_3, finJ_4, finJ_int, finJ_bool, finJ_str, finJ_nils, finJ_agg, finJ_own, finJ_sl, finJ_tup, look_cons, reduceCtorEq, evCall_mutOwn, evCall_mutAgg, evGive, giveRows, ioBoxes, mutArgs, roArgs, handArg, mutSlots, isPtrB, pairs, pairss, back_nil, back_cons, backO, backE, setBoxes, importB, mode_mut, mode_give, mode_io, mode_ro, List.zip_cons_cons, List.zip_nil_left, List.zip_nil_right, ite_self, ite_true, ite_false, finish_give, finish_mut1, finish_io0, finish_io2, finish_io3, finish_ioc, finI, finC, finW_ptr, SO, SH, frzO, frzE, AV.laid, AV.treeV, AV.treeC, St.laid, spent, AV.subs, AV.shut, AV.scal, AV.scals, evBuildSlice, elemsOf, zeroOK, evAppend, rowOf, noref, isRef, small, import_, AV.any, AV.anys, isPtr, finV, rename, noPtr, isBad, AV.isUndef, St.setRow, AV.shutV, rebuild, isAggV, evBuild, fillCells, evCutOwn, dedup, nodupB, idx, AV.rows, AV.rowss, AV.mapO, AV.mapOs, firstRegion, gc, keptBoxes, keptRows, renameB, AV.boxes, AV.boxess, keep_17_7, leaf_some, isNormal, ifEv_bool, gate_bool, gateP_bool, gateQ_bool, pick_bool, SN, evCutRow, Int.reduceToNat, id_eq, Int.reduceBEq, Int.reduceLE, Int.reduceLT, SS, one_ne2, num_ne2, TIS, MDS, wanted, numbered, plainC, plainS, evEq, eqK, evBox, evAlloc, evStore, evLoad, evFieldAddr, behind, takeVal, AV.cells, AV.isCell, ofCells, ofCell, Value.cells, Nat.reduceAdd, Nat.reduceEqDiff, Nat.reduceLT, Nat.reduceLeDiff, Nat.reduceMul, Nat.reduceSub, reduceIte]
        repeat' (split <;> (rename_i h; (try simp -implicitDefEqProofs only [Bool.not_eq_true', Bool.not_eq_false', decide_eq_true_eq, decide_eq_false_iff_not] at h); (try simp -implicitDefEqProofs only [QS, QN, QG, QO, *, h0, hw1, hpl, hn9, hn1, hn2, List.map_append, enc_Includes, look_nil, evCall_io1, evCall_io2, evCall_io3, evCall_io4, finJ_1, finJ_2, finJ_3, finJ_4, finJ_int, finJ_bool, finJ_str, finJ_nils, finJ_agg, finJ_own, finJ_sl, finJ_tup, look_cons, reduceCtorEq, evCall_mutOwn, evCall_mutAgg, evGive, giveRows, ioBoxes, mutArgs, roArgs, handArg, mutSlots, isPtrB, pairs, pairss, back_nil, back_cons, backO, backE, setBoxes, importB, mode_mut, mode_give, mode_io, mode_ro, List.zip_cons_cons, List.zip_nil_left, List.zip_nil_right, ite_self, ite_true, ite_false, finish_give, finish_mut1, finish_io0, finish_io2, finish_io3, finish_ioc, finI, finC, finW_ptr, SO, SH, frzO, frzE, AV.laid, AV.treeV, AV.treeC, St.laid, spent, AV.subs, AV.shut, AV.scal, AV.scals, evBuildSlice, elemsOf, zeroOK, evAppend, rowOf, noref, isRef, small, import_, AV.any, AV.anys, isPtr, finV, rename, noPtr, isBad, AV.isUndef, St.setRow, AV.shutV, rebuild, isAggV, evBuild, fillCells, evCutOwn, dedup, nodupB, idx, AV.rows, AV.rowss, AV.mapO, AV.mapOs, firstRegion, gc, keptBoxes, keptRows, renameB, AV.boxes, AV.boxess, keep_17_7, leaf_some, isNormal, ifEv_bool, gate_bool, gateP_bool, gateQ_bool, pick_bool, SN, evCutRow, Int.reduceToNat, id_eq, Int.reduceBEq, Int.reduceLE, Int.reduceLT, SS, one_ne2, num_ne2, TIS, MDS, wanted, numbered, plainC, plainS, evEq, eqK, evBox, evAlloc, evStore, evLoad, evFieldAddr, behind, takeVal, AV.cells, AV.isCell, ofCells, ofCell, Value.cells, Nat.reduceAdd, Nat.reduceEqDiff, Nat.reduceLT, Nat.reduceLeDiff, Nat.reduceMul, Nat.reduceSub, reduceIte])))
        try trace_state
      · simp -implicitDefEqProofs only [firstRegion]
        rw [keep_17_7]
        simp -implicitDefEqProofs only [QS, QN, QG, QO, List.replicate_zero, List.map_append, enc_Includes, SN, evCutRow, Int.reduceToNat, id_eq, Int.reduceBEq, Int.reduceLE, Int.reduceLT, SO, SH, frzO, frzE, AV.laid, AV.treeV, AV.treeC, St.laid, spent, AV.subs, AV.shut, AV.scal, AV.scals, evBuildSlice, elemsOf, zeroOK, evAppend, rowOf, noref, isRef, small, import_, AV.any, AV.anys, isPtr, finV, rename, noPtr, isBad, AV.isUndef, St.setRow, AV.shutV, rebuild, isAggV, evBuild, fillCells, evCutOwn, dedup, nodupB, idx, AV.rows, AV.rowss, AV.mapO, AV.mapOs, firstRegion, gc, keptBoxes, keptRows, renameB, AV.boxes, AV.boxess, SS, one_ne2, num_ne2, TIS, MDS, wanted, numbered, plainC, plainS, evEq, eqK, evBox, evAlloc, evStore, evLoad, evFieldAddr, behind, takeVal, AV.cells, AV.isCell, ofCells, ofCell, Value.cells, Nat.reduceAdd, Nat.reduceEqDiff, Nat.reduceLT, Nat.reduceLeDiff, Nat.reduceMul, Nat.reduceSub, reduceIte]
        try trace_state
      · rfl
  · simp -implicitDefEqProofs only [arePairs1] at hlnP ⊢
    cases he : below1 bs 10 (belowI bs 7 (belowI bs 7 (belowI bs 2 X.2.1))) (belowH 7 (belowH 7 (belowH 2 X.2.2))) == 0
    · simp -implicitDefEqProofs only [QS, QN, QG, QO, arePairs2, hd, he, hpl, hm1, hm2, hm9, List.map_append, enc_Includes, Go.Proofs.Try.f17, evCall_give1, c1, c3, c4, c5, look_nil, evCall_io1, evCall_io2, evCall_io3, evCall_io4, finJ_1, finJ_2, finJ_3, finJ_4, finJ_int, finJ_bool, finJ_str, finJ_nils, finJ_agg, finJ_own, finJ_sl, finJ_tup, look_cons, reduceCtorEq, evCall_mutOwn, evCall_mutAgg, evGive, giveRows, ioBoxes, mutArgs, roArgs, handArg, mutSlots, isPtrB, pairs, pairss, back_nil, back_cons, backO, backE, setBoxes, importB, mode_mut, mode_give, mode_io, mode_ro, List.zip_cons_cons, List.zip_nil_left, List.zip_nil_right, ite_self, ite_true, ite_false, finish_give, finish_mut1, finish_io0, finish_io2, finish_io3, finish_ioc, finI, finC, finW_ptr, SO, SH, frzO, frzE, AV.laid, AV.treeV, AV.treeC, St.laid, spent, AV.subs, AV.shut, AV.scal, AV.scals, evBuildSlice, elemsOf, zeroOK, evAppend, rowOf, noref, isRef, small, import_, AV.any, AV.anys, isPtr, finV, rename, noPtr, isBad, AV.isUndef, St.setRow, AV.shutV, rebuild, isAggV, evBuild, fillCells, evCutOwn, dedup, nodupB, idx, AV.rows, AV.rowss, AV.mapO, AV.mapOs, firstRegion, gc, keptBoxes, keptRows, renameB, AV.boxes, AV.boxess, SN, evCutRow, Int.reduceToNat, id_eq, Int.reduceBEq, Int.reduceLE, Int.reduceLT, SS, one_ne2, num_ne2, TIS, MDS, wanted, numbered, plainC, plainS, evEq, eqK, evBox, evAlloc, evStore, evLoad, evFieldAddr, behind, takeVal, AV.cells, AV.isCell, ofCells, ofCell, Value.cells, Nat.reduceAdd, Nat.reduceEqDiff, Nat.reduceLT, Nat.reduceLeDiff, Nat.reduceMul, Nat.reduceSub, reduceIte]
      try trace_state
    · simp -implicitDefEqProofs only [QS, QN, QG, QO, arePairs2, hd, he, hpl, hm1, hm2, hm9, Go.Proofs.Try.f17, evCall_give1, c1, c3, c4, c5, look_nil, evCall_io1, evCall_io2, evCall_io3, evCall_io4, finJ_1, finJ_2, finJ_3, finJ_4, finJ_int, finJ_bool, finJ_str, finJ_nils, finJ_agg, finJ_own, finJ_sl, finJ_tup, look_cons, reduceCtorEq, evCall_mutOwn, evCall_mutAgg, evGive, giveRows, ioBoxes, mutArgs, roArgs, handArg, mutSlots, isPtrB, pairs, pairss, back_nil, back_cons, backO, backE, setBoxes, importB, mode_mut, mode_give, mode_io, mode_ro, List.zip_cons_cons, List.zip_nil_left, List.zip_nil_right, ite_self, ite_true, ite_false, finish_give, finish_mut1, finish_io0, finish_io2, finish_io3, finish_ioc, finI, finC, finW_ptr, SO, SH, frzO, frzE, AV.laid, AV.treeV, AV.treeC, St.laid, spent, AV.subs, AV.shut, AV.scal, AV.scals, evBuildSlice, elemsOf, zeroOK, evAppend, rowOf, noref, isRef, small, import_, AV.any, AV.anys, isPtr, finV, rename, noPtr, isBad, AV.isUndef, St.setRow, AV.shutV, rebuild, isAggV, evBuild, fillCells, evCutOwn, dedup, nodupB, idx, AV.rows, AV.rowss, AV.mapO, AV.mapOs, firstRegion, gc, keptBoxes, keptRows, renameB, AV.boxes, AV.boxess, SN, evCutRow, Int.reduceToNat, id_eq, Int.reduceBEq, Int.reduceLE, Int.reduceLT, SS, one_ne2, num_ne2, TIS, MDS, wanted, numbered, plainC, plainS, evEq, eqK, evBox, evAlloc, evStore, evLoad, evFieldAddr, behind, takeVal, AV.cells, AV.isCell, ofCells, ofCell, Value.cells, Nat.reduceAdd, Nat.reduceEqDiff, Nat.reduceLT, Nat.reduceLeDiff, Nat.reduceMul, Nat.reduceSub, reduceIte]
      rw [ev_loop]
      refine Eq.trans (loop_list (Q := fun (_ : Unit) x => thenEnd E.P _ _ 0 (thenEv E _ _ _ _ _ (outOf 0 x)) = some (.own 0 false 56 2 (((X.1 ++ [(⟨IntKind.i64.wrap (below1 bs 7 (belowI bs 2 X.2.1) (belowH 2 X.2.2) - 1), below1 bs 7 (belowI bs 7 (belowI bs 2 X.2.1)) (belowH 7 (belowH 2 X.2.2))⟩ : Includes)]) ++ List.replicate 9 (⟨5, 1⟩ : Includes)).map (Includes.enc true)), [])) (List.range 9) (fun _ _ _ => .inr ()) id
        (fun j _ => { sl := [(4, .own 0 false 56 2 (((X.1 ++ [(⟨IntKind.i64.wrap (below1 bs 7 (belowI bs 2 X.2.1) (belowH 2 X.2.2) - 1), below1 bs 7 (belowI bs 7 (belowI bs 2 X.2.1)) (belowH 7 (belowH 2 X.2.2))⟩ : Includes)]) ++ List.replicate j (⟨5, 1⟩ : Includes)).map (Includes.enc true))), (5, .int .i64 (j : Nat))], bx := [], nx := 1, nt := 32 }) (fun _ _ => True) () ?_ ?_ (by simp; omega) trivial ?_) ?_
      · intro _ _
        rw [List.length_range]
        have h0 : ¬ ((9 : Nat) : Int) < 9 := by omega
        simp -implicitDefEqProofs only [QS, QN, QG, QO, h0, look_nil, evCall_io1, evCall_io2, evCall_io3, evCall_io4, finJ_1, finJ_2, finJ_3, finJ_4, finJ_int, finJ_bool, finJ_str, finJ_nils, finJ_agg, finJ_own, finJ_sl, finJ_tup, look_cons, reduceCtorEq, evCall_mutOwn, evCall_mutAgg, evGive, giveRows, ioBoxes, mutArgs, roArgs, handArg, mutSlots, isPtrB, pairs, pairss, back_nil, back_cons, backO, backE, setBoxes, importB, mode_mut, mode_give, mode_io, mode_ro, List.zip_cons_cons, List.zip_nil_left, List.zip_nil_right, ite_self, ite_true, ite_false, finish_give, finish_mut1, finish_io0, finish_io2, finish_io3, finish_ioc, finI, finC, finW_ptr, SO, SH, frzO, frzE, AV.laid, AV.treeV, AV.treeC, St.laid, spent, AV.subs, AV.shut, AV.scal, AV.scals, evBuildSlice, elemsOf, zeroOK, evAppend, rowOf, noref, isRef, small, import_, AV.any, AV.anys, isPtr, finV, rename, noPtr, isBad, AV.isUndef, St.setRow, AV.shutV, rebuild, isAggV, evBuild, fillCells, evCutOwn, dedup, nodupB, idx, AV.rows, AV.rowss, AV.mapO, AV.mapOs, firstRegion, gc, keptBoxes, keptRows, renameB, AV.boxes, AV.boxess, leaf_some, isNormal, ifEv_bool, gate_bool, gateP_bool, gateQ_bool, pick_bool, SN, evCutRow, Int.reduceToNat, id_eq, Int.reduceBEq, Int.reduceLE, Int.reduceLT, SS, one_ne2, num_ne2, TIS, MDS, wanted, numbered, plainC, plainS, evEq, eqK, evBox, evAlloc, evStore, evLoad, evFieldAddr, behind, takeVal, AV.cells, AV.isCell, ofCells, ofCell, Value.cells, Nat.reduceAdd, Nat.reduceEqDiff, Nat.reduceLT, Nat.reduceLeDiff, Nat.reduceMul, Nat.reduceSub, reduceIte]
        repeat' (split <;> (rename_i h; (try simp -implicitDefEqProofs only [Bool.not_eq_true', Bool.not_eq_false', decide_eq_true_eq, decide_eq_false_iff_not] at h); (try simp -implicitDefEqProofs only [QS, QN, QG, QO, *, h0, look_nil, evCall_io1, evCall_io2, evCall_io3, evCall_io4, finJ_1, finJ_2, finJ_3, finJ_4, finJ_int, finJ_bool, finJ_str, finJ_nils, finJ_agg, finJ_own, finJ_sl, finJ_tup, look_cons, reduceCtorEq, evCall_mutOwn, evCall_mutAgg, evGive, giveRows, ioBoxes, mutArgs, roArgs, handArg, mutSlots, isPtrB, pairs, pairss, back_nil, back_cons, backO, backE, setBoxes, importB, mode_mut, mode_give, mode_io, mode_ro, List.zip_cons_cons, List.zip_nil_left, List.zip_nil_right, ite_self, ite_true, ite_false, finish_give, finish_mut1, finish_io0, finish_io2, finish_io3, finish_ioc, finI, finC, finW_ptr, SO, SH, frzO, frzE, AV.laid, AV.treeV, AV.treeC, St.laid, spent, AV.subs, AV.shut, AV.scal, AV.scals, evBuildSlice, elemsOf, zeroOK, evAppend, rowOf, noref, isRef, small, import_, AV.any, AV.anys, isPtr, finV, rename, noPtr, isBad, AV.isUndef, St.setRow, AV.shutV, rebuild, isAggV, evBuild, fillCells, evCutOwn, dedup, nodupB, idx, AV.rows, AV.rowss, AV.mapO, AV.mapOs, firstRegion, gc, keptBoxes, keptRows, renameB, AV.boxes, AV.boxess, leaf_some, isNormal, ifEv_bool, gate_bool, gateP_bool, gateQ_bool, pick_bool, SN, evCutRow, Int.reduceToNat, id_eq, Int.reduceBEq, Int.reduceLE, Int.reduceLT, SS, one_ne2, num_ne2, TIS, MDS, wanted, numbered, plainC, plainS, evEq, eqK, evBox, evAlloc, evStore, evLoad, evFieldAddr, behind, takeVal, AV.cells, AV.isCell, ofCells, ofCell, Value.cells, Nat.reduceAdd, Nat.reduceEqDiff, Nat.reduceLT, Nat.reduceLeDiff, Nat.reduceMul, Nat.reduceSub, reduceIte])))
        try trace_state
      · intro pre z r _ hs' _
        have hpl9 : pre.length < 9 := by have := congrArg List.length hs'; simp at this; omega
        clear hs'
        have h0 : ((pre.length : Nat) : Int) < 9 := by omega
        have hw1 : IntKind.i64.wrap (((pre.length : Nat) : Int) + 1) = ((pre.length + 1 : Nat) : Int) := by rw [IntWalk.i64_in _ (by omega)]; omega
        have hn : ((X.1 ++ [(⟨IntKind.i64.wrap (below1 bs 7 (belowI bs 2 X.2.1) (belowH 2 X.2.2) - 1), below1 bs 7 (belowI bs 7 (belowI bs 2 X.2.1)) (belowH 7 (belowH 2 X.2.2))⟩ : Includes)]) ++ List.replicate pre.length (⟨5, 1⟩ : Includes)).length ≤ 100 := by simp; omega
        have hrs : ∀ W : List Includes, W ++ List.replicate (pre.length + 1) (⟨5, 1⟩ : Includes) = (W ++ List.replicate pre.length (⟨5, 1⟩ : Includes)) ++ [⟨5, 1⟩] := fun W => by rw [List.replicate_succ', ← List.append_assoc]
        simp -implicitDefEqProofs only [hrs]
        clear hrs
        generalize (X.1 ++ [(⟨IntKind.i64.wrap (below1 bs 7 (belowI bs 2 X.2.1) (belowH 2 X.2.2) - 1), below1 bs 7 (belowI bs 7 (belowI bs 2 X.2.1)) (belowH 7 (belowH 2 X.2.2))⟩ : Includes)]) ++ List.replicate pre.length (⟨5, 1⟩ : Includes) = Y at *
        have hn1 : (Y.length + 1) * 16 ≤ 140737488355328 := by omega
        have hn2 : Y.length + 1 ≤ 9223372036854775807 := by omega
        have hn9 : Y.length ≤ 9223372036854775806 := by omega
        simp -implicitDefEqProofs only [QS, QN, QG, QO, h0, hw1, hpl, hn9, hn1, hn2, List.map_append, enc_Includes, look_nil, evCall_io1, evCall_io2, evCall_io3, evCall_io4, finJ_1, finJ_2, finJ_3, finJ_4, finJ_int, finJ_bool, finJ_str, finJ_nils, finJ_agg, finJ_own, finJ_sl, finJ_tup, look_cons, reduceCtorEq, evCall_mutOwn, evCall_mutAgg, evGive, giveRows, ioBoxes, mutArgs, roArgs, handArg, mutSlots, isPtrB, pairs, pairss, back_nil, back_cons, backO, backE, setBoxes, importB, mode_mut, mode_give, mode_io, mode_ro, List.zip_cons_cons, List.zip_nil_left, List.zip_nil_right, ite_self, ite_true, ite_false, finish_give, finish_mut1, finish_io0, finish_io2, finish_io3, finish_ioc, finI, finC, finW_ptr, SO, SH, frzO, frzE, AV.laid, AV.treeV, AV.treeC, St.laid, spent, AV.subs, AV.shut, AV.scal, AV.scals, evBuildSlice, elemsOf, zeroOK, evAppend, rowOf, noref, isRef, small, import_, AV.any, AV.anys, isPtr, finV, rename, noPtr, isBad, AV.isUndef, St.setRow, AV.shutV, rebuild, isAggV, evBuild, fillCells, evCutOwn, dedup, nodupB, idx, AV.rows, AV.rowss, AV.mapO, AV.mapOs, firstRegion, gc, keptBoxes, keptRows, renameB, AV.boxes, AV.boxess, keep_17_7, leaf_some, isNormal, ifEv_bool, gate_bool, gateP_bool, gateQ_bool, pick_bool, SN, evCutRow, Int.reduceToNat, id_eq, Int.reduceBEq, Int.reduceLE, Int.reduceLT, SS, one_ne2, num_ne2, TIS, MDS, wanted, numbered, plainC, plainS, evEq, eqK, evBox, evAlloc, evStore, evLoad, evFieldAddr, behind, takeVal, AV.cells, AV.isCell, ofCells, ofCell, Value.cells, Nat.reduceAdd, Nat.reduceEqDiff, Nat.reduceLT, Nat.reduceLeDiff, Nat.reduceMul, Nat.reduceSub, reduceIte]
        repeat' (split <;> (rename_i h; (try simp -implicitDefEqProofs only [Bool.not_eq_true', Bool.not_eq_false', decide_eq_true_eq, decide_eq_false_iff_not] at h); (try simp -implicitDefEqProofs only [QS, QN, QG, QO, *, h0, hw1, hpl, hn9, hn1, hn2, List.map_append, enc_Includes, look_nil, evCall_io1, evCall_io2, evCall_io3, evCall_io4, finJ_1, finJ_2, finJ_3, finJ_4, finJ_int, finJ_bool, finJ_str, finJ_nils, finJ_agg, finJ_own, finJ_sl, finJ_tup, look_cons, reduceCtorEq, evCall_mutOwn, evCall_mutAgg, evGive, giveRows, ioBoxes, mutArgs, roArgs, handArg, mutSlots, isPtrB, pairs, pairss, back_nil, back_cons, backO, backE, setBoxes, importB, mode_mut, mode_give, mode_io, mode_ro, List.zip_cons_cons, List.zip_nil_left, List.zip_nil_right, ite_self, ite_true, ite_false, finish_give, finish_mut1, finish_io0, finish_io2, finish_io3, finish_ioc, finI, finC, finW_ptr, SO, SH, frzO, frzE, AV.laid, AV.treeV, AV.treeC, St.laid, spent, AV.subs, AV.shut, AV.scal, AV.scals, evBuildSlice, elemsOf, zeroOK, evAppend, rowOf, noref, isRef, small, import_, AV.any, AV.anys, isPtr, finV, rename, noPtr, isBad, AV.isUndef, St.setRow, AV.shutV, rebuild, isAggV, evBuild, fillCells, evCutOwn, dedup, nodupB, idx, AV.rows, AV.rowss, AV.mapO, AV.mapOs, firstRegion, gc, keptBoxes, keptRows, renameB, AV.boxes, AV.boxess, keep_17_7, leaf_some, isNormal, ifEv_bool, gate_bool, gateP_bool, gateQ_bool, pick_bool, SN, evCutRow, Int.reduceToNat, id_eq, Int.reduceBEq, Int.reduceLE, Int.reduceLT, SS, one_ne2, num_ne2, TIS, MDS, wanted, numbered, plainC, plainS, evEq, eqK, evBox, evAlloc, evStore, evLoad, evFieldAddr, behind, takeVal, AV.cells, AV.isCell, ofCells, ofCell, Value.cells, Nat.reduceAdd, Nat.reduceEqDiff, Nat.reduceLT, Nat.reduceLeDiff, Nat.reduceMul, Nat.reduceSub, reduceIte])))
        try trace_state
      · simp -implicitDefEqProofs only [firstRegion]
        rw [keep_17_7]
        simp -implicitDefEqProofs only [QS, QN, QG, QO, List.replicate_zero, List.map_append, enc_Includes, SN, evCutRow, Int.reduceToNat, id_eq, Int.reduceBEq, Int.reduceLE, Int.reduceLT, SO, SH, frzO, frzE, AV.laid, AV.treeV, AV.treeC, St.laid, spent, AV.subs, AV.shut, AV.scal, AV.scals, evBuildSlice, elemsOf, zeroOK, evAppend, rowOf, noref, isRef, small, import_, AV.any, AV.anys, isPtr, finV, rename, noPtr, isBad, AV.isUndef, St.setRow, AV.shutV, rebuild, isAggV, evBuild, fillCells, evCutOwn, dedup, nodupB, idx, AV.rows, AV.rowss, AV.mapO, AV.mapOs, firstRegion, gc, keptBoxes, keptRows, renameB, AV.boxes, AV.boxess, SS, one_ne2, num_ne2, TIS, MDS, wanted, numbered, plainC, plainS, evEq, eqK, evBox, evAlloc, evStore, evLoad, evFieldAddr, behind, takeVal, AV.cells, AV.isCell, ofCells, ofCell, Value.cells, Nat.reduceAdd, Nat.reduceEqDiff, Nat.reduceLT, Nat.reduceLeDiff, Nat.reduceMul, Nat.reduceSub, reduceIte]
        try trace_state
      · rfl
theorem policyD_ne {bs : List Int} {i : Nat} {h : Int} : (policyD bs i h).1.rules ≠ [] := by
  have := below_lt bs (n := 4) (by omega) (by omega) (belowI bs 5 i) (belowH 5 h)
  intro h0
  have h1 := congrArg List.length h0
  unfold policyD at h1
  simp -implicitDefEqProofs only [rulesN_len, rules0, List.length_nil] at h1
  omega
theorem anyPolicyD_ne {bs : List Int} {i : Nat} {h : Int} : (anyPolicyD bs i h).1.rules ≠ [] := by
  have h0 := policyD_ne (bs := bs) (i := i) (h := h)
  unfold anyPolicyD anyPolicyN
  split
  · exact h0
  · simp
  · intro h1
    have h2 := congrArg List.length h1
    simp -implicitDefEqProofs only [rulesN_len, List.length_nil] at h2
    have : (policyD bs i h).1.rules.length ≠ 0 := fun e => h0 (List.length_eq_zero_iff.1 e)
    omega
  · exact h0
noncomputable def pubList (X : List Epoch) : Bool → List Epoch
  | true => fillN X (6 - X.length)
  | false => X
noncomputable def pubL (bs : List Int) : List Epoch := pubList (listD bs 0 (hashOf bs)).1 (below1 bs 8 (listD bs 0 (hashOf bs)).2.1 (listD bs 0 (hashOf bs)).2.2 == 0)
noncomputable def pubQ (bs : List Int) : Draw Policy := anyPolicyD bs (belowI bs 8 (listD bs 0 (hashOf bs)).2.1) (belowH 8 (listD bs 0 (hashOf bs)).2.2)
noncomputable def pubT (bs : List Int) : Int := IntKind.i64.wrap (20 + (timeD bs (pubQ bs).2.1 (pubQ bs).2.2).1.tmod 40)
theorem pubL_drawn (bs : List Int) : Drawn (pubL bs) 9 := by
  have h1 := listD_drawn bs 0 (hashOf bs)
  unfold pubL pubList
  split
  · exact (fillN_drawn h1 _ (by omega)).mono (by omega)
  · exact h1.mono (by omega)
theorem pubL_w (bs : List Int) : wl Epoch.w (pubL bs) ≤ 200 := by
  have h1 := listD_w (bs := bs) (i := 0) (h := hashOf bs)
  unfold pubL pubList
  split
  · have := fillN_w (l := (listD bs 0 (hashOf bs)).1) (6 - (listD bs 0 (hashOf bs)).1.length)
    omega
  · omega
theorem r_spec_DrawPublishEpoch {fl : Bool} (k : Nat) (hk : 290271069732864 + 22 ≤ k) (bs : List Int) (hb : bs.length ≤ 140737488355328) :
    run E noExt k 5 [.sl fl (bs.map byteA)] [] = some (.tup [.own 0 false 39 5 ((pubL bs).map Epoch.tencS), .own 1 false 56 2 ((arePairsD bs).map (Includes.enc true)), .own 2 false 64 7 ((pubQ bs).1.rules.map (Rule.enc true)), .int .i64 (pubT bs)], []) := by
  have c1 := r_spec_l1New (fl := fl) (k - 1) (by omega) bs hb
  have c2 := fun i h => r_spec_l24List (fl := fl) (k - 1) (by omega) bs hb i h
  have c3 := fun n i h => r_spec_l1Once (fl := fl) (k - 1) (by omega) bs hb n i h
  have c5 := r_spec_DrawArePairs (fl := fl) (k - 1) (by omega) bs hb
  have c6 := fun i h => r_spec_l19Any (fl := fl) (k - 1) (by omega) bs hb i h
  have c7 := fun i h => r_spec_l4Time (fl := fl) (k - 1) (by omega) bs hb i h
  have c8 := fun l hw => r_spec_PublishEpoch (k - 1) (by omega) l [] [] 30 hw
  have hX := listD_drawn bs 0 (hashOf bs)
  have hXw := listD_w (bs := bs) (i := 0) (h := hashOf bs)
  obtain ⟨k, rfl⟩ : ∃ j, k = j + 1 := ⟨k - 1, by omega⟩
  rw [run_succ rfl rfl, body_eq (nt := 38) (fn := Go.Proofs.Try.f5) (by kernel_rfl) rfl rfl rfl rfl rfl rfl rfl rfl]
  simp -implicitDefEqProofs only [Nat.add_sub_cancel, List.map_nil] at c1 c2 c3 c5 c6 c7 c8
  have c4 := c2 0 (hashOf bs)
  rw [show ((0 : Nat) : Int) = 0 from rfl] at c4
  unfold pubT pubL pubQ
  generalize listD bs 0 (hashOf bs) = X at *
  have hown : ∀ id, rowQ id (anyPolicyD bs (belowI bs 8 X.2.1) (belowH 8 X.2.2)).1.rules = .own id false 64 7 ((anyPolicyD bs (belowI bs 8 X.2.1) (belowH 8 X.2.2)).1.rules.map (Rule.enc true)) := fun id => rowQ_own anyPolicyD_ne
  have c9 := c6 (belowI bs 8 X.2.1) (belowH 8 X.2.2)
  generalize anyPolicyD bs (belowI bs 8 X.2.1) (belowH 8 X.2.2) = Q at *
  generalize arePairsD bs = A at *
  cases hd : below1 bs 8 X.2.1 X.2.2 == 0
  · simp -implicitDefEqProofs only [QS, QN, QG, QO, pubList, hown, hd, op_field, evField, Go.Proofs.Try.f5, evCall_give1, c1, c3, c4, c5, c7, c9, bin_rem40, frD_rows, frD_noref, tscals_S, tscals_Includes, rows_rowQ, boxes_rowQ, ↓isCell_rowQ, cells_rowQ, dedup_rowsQ, nodup_rowsQ, all_rowsQ, allT_rowsQ, small_rowsQ, bad_rowQ, ptr_rowQ, away_rowQ, mapO_rowQ, imp_rowQ, lend_rowQ, shut_rowQ, mem_rowsQ, calm_rowQ, allD_rowsQ, allE_rowsQ, frzD_rowQ, frzB_rowQ, freezeD_all, rows_argsR, boxes_argsR, ↓isCell_argsR, cells_argsR, cellsX_agg, cellsX_int, cellsX_bool, cellsX_str, cellsX_nils, cellsX_sl, cellsX_own, cellsX_ptr, cellsX_cptr, cellsX_undef, dedup_rowsD, nodup_rowsD, all_rowsD, all_rowsT, small_rowsD, bad_argsR, ptr_argsR, mapO_argsR, imp_argsR, lend_argsR4, shut_argsR, mem_rowsD, allmem_rowsD, after_D, freeze_ite, frzB_argsR, away_argsR, calm_argsR, opS_call, slidM_io1, slidM_io2, away_F, away_ptr, away_int, away_bool, away_nils, away_undef, away_sl, away_agg, away_own, look_nil, evCall_io1, evCall_io2, evCall_io3, evCall_io4, finJ_1, finJ_2, finJ_3, finJ_4, finJ_int, finJ_bool, finJ_str, finJ_nils, finJ_agg, finJ_own, finJ_sl, finJ_tup, look_cons, reduceCtorEq, evCall_mutOwn, evCall_mutAgg, evGive, giveRows, ioBoxes, mutArgs, roArgs, handArg, mutSlots, isPtrB, pairs, pairss, back_nil, back_cons, backO, backE, setBoxes, importB, mode_mut, mode_give, mode_io, mode_ro, List.zip_cons_cons, List.zip_nil_left, List.zip_nil_right, ite_self, ite_true, ite_false, finish_give, finish_mut1, finish_io0, finish_io2, finish_io3, finish_ioc, finI, finC, finW_ptr, SO, SH, frzO, frzE, AV.laid, AV.treeV, AV.treeC, St.laid, spent, AV.subs, AV.shut, AV.scal, AV.scals, evBuildSlice, elemsOf, zeroOK, noref, isRef, small, import_, AV.any, AV.anys, isPtr, finV, rename, noPtr, isBad, AV.isUndef, St.setRow, AV.shutV, rebuild, isAggV, evBuild, fillCells, evCutOwn, dedup, nodupB, idx, AV.rows, AV.rowss, AV.mapO, AV.mapOs, firstRegion, gc, keptBoxes, keptRows, renameB, AV.boxes, AV.boxess, SN, evCutRow, Int.reduceToNat, id_eq, Int.reduceBEq, Int.reduceLE, Int.reduceLT, SS, one_ne2, num_ne2, TIS, MDS, wanted, numbered, plainC, plainS, evEq, eqK, evBox, evAlloc, evStore, evLoad, evFieldAddr, behind, takeVal, AV.isCell, ofCells, ofCell, Value.cells, Nat.reduceAdd, Nat.reduceEqDiff, Nat.reduceLT, Nat.reduceLeDiff, Nat.reduceMul, Nat.reduceSub, reduceIte]
    try trace_state
  · simp -implicitDefEqProofs only [QS, QN, QG, QO, pubList, hown, hd, op_field, evField, Go.Proofs.Try.f5, evCall_give1, c1, c3, c4, c5, c7, c9, frD_rows, frD_noref, tscals_S, tscals_Includes, rows_rowQ, boxes_rowQ, ↓isCell_rowQ, cells_rowQ, dedup_rowsQ, nodup_rowsQ, all_rowsQ, allT_rowsQ, small_rowsQ, bad_rowQ, ptr_rowQ, away_rowQ, mapO_rowQ, imp_rowQ, lend_rowQ, shut_rowQ, mem_rowsQ, calm_rowQ, allD_rowsQ, allE_rowsQ, frzD_rowQ, frzB_rowQ, freezeD_all, rows_argsR, boxes_argsR, ↓isCell_argsR, cells_argsR, cellsX_agg, cellsX_int, cellsX_bool, cellsX_str, cellsX_nils, cellsX_sl, cellsX_own, cellsX_ptr, cellsX_cptr, cellsX_undef, dedup_rowsD, nodup_rowsD, all_rowsD, all_rowsT, small_rowsD, bad_argsR, ptr_argsR, mapO_argsR, imp_argsR, lend_argsR4, shut_argsR, mem_rowsD, allmem_rowsD, after_D, freeze_ite, frzB_argsR, away_argsR, calm_argsR, opS_call, slidM_io1, slidM_io2, away_F, away_ptr, away_int, away_bool, away_nils, away_undef, away_sl, away_agg, away_own, look_nil, evCall_io1, evCall_io2, evCall_io3, evCall_io4, finJ_1, finJ_2, finJ_3, finJ_4, finJ_int, finJ_bool, finJ_str, finJ_nils, finJ_agg, finJ_own, finJ_sl, finJ_tup, look_cons, reduceCtorEq, evCall_mutOwn, evCall_mutAgg, evGive, giveRows, ioBoxes, mutArgs, roArgs, handArg, mutSlots, isPtrB, pairs, pairss, back_nil, back_cons, backO, backE, setBoxes, importB, mode_mut, mode_give, mode_io, mode_ro, List.zip_cons_cons, List.zip_nil_left, List.zip_nil_right, ite_self, ite_true, ite_false, finish_give, finish_mut1, finish_io0, finish_io2, finish_io3, finish_ioc, finI, finC, finW_ptr, SO, SH, frzO, frzE, AV.laid, AV.treeV, AV.treeC, St.laid, spent, AV.subs, AV.shut, AV.scal, AV.scals, evBuildSlice, elemsOf, zeroOK, noref, isRef, small, import_, AV.any, AV.anys, isPtr, finV, rename, noPtr, isBad, AV.isUndef, St.setRow, AV.shutV, rebuild, isAggV, evBuild, fillCells, evCutOwn, dedup, nodupB, idx, AV.rows, AV.rowss, AV.mapO, AV.mapOs, firstRegion, gc, keptBoxes, keptRows, renameB, AV.boxes, AV.boxess, SN, evCutRow, Int.reduceToNat, id_eq, Int.reduceBEq, Int.reduceLE, Int.reduceLT, SS, one_ne2, num_ne2, TIS, MDS, wanted, numbered, plainC, plainS, evEq, eqK, evBox, evAlloc, evStore, evLoad, evFieldAddr, behind, takeVal, AV.isCell, ofCells, ofCell, Value.cells, Nat.reduceAdd, Nat.reduceEqDiff, Nat.reduceLT, Nat.reduceLeDiff, Nat.reduceMul, Nat.reduceSub, reduceIte]
    rw [ev_loop]
    refine Eq.trans (loop_list (Q := fun (_ : Unit) x => thenEnd E.P _ _ 0 (thenEv E _ _ _ _ _ (outOf 0 x)) = some (.tup [.own 0 false 39 5 ((fillN X.1 (6 - X.1.length)).map Epoch.tencS), .own 1 false 56 2 (A.map (Includes.enc true)), .own 2 false 64 7 (Q.1.rules.map (Rule.enc true)), .int .i64 (IntKind.i64.wrap (20 + (timeD bs Q.2.1 Q.2.2).1.tmod 40))], [])) (List.range (6 - X.1.length)) (fun _ _ _ => .inr ()) id
      (fun j _ => { sl := [(0, .sl fl (bs.map byteA)), (6, .ptr 0 0), (7, .own 0 false 39 5 ((fillN X.1 j).map Epoch.tencS))], bx := [(0, [.sl fl (bs.map byteA), .int .i64 (belowI bs 8 X.2.1 : Nat), .int .i64 (belowH 8 X.2.2)])], nx := 2, nt := 38 }) (fun _ _ => True) () ?_ ?_ (by simp; omega) trivial ?_) ?_
    · intro _ _
      rw [List.length_range]
      have h0 : ¬ (((fillN X.1 (6 - X.1.length)).length : Nat) : Int) < 6 := by rw [fillN_len hX _ (by have := hX.len; omega) (by have := hX.len; omega)]; have := hX.len; omega
      simp -implicitDefEqProofs only [QS, QN, QG, QO, h0, hown, op_field, evField, bin_rem40, frD_rows, frD_noref, c1, c3, c5, c7, c9, tscals_S, tscals_Includes, rows_rowQ, boxes_rowQ, ↓isCell_rowQ, cells_rowQ, dedup_rowsQ, nodup_rowsQ, all_rowsQ, allT_rowsQ, small_rowsQ, bad_rowQ, ptr_rowQ, away_rowQ, mapO_rowQ, imp_rowQ, lend_rowQ, shut_rowQ, mem_rowsQ, calm_rowQ, allD_rowsQ, allE_rowsQ, frzD_rowQ, frzB_rowQ, freezeD_all, rows_argsR, boxes_argsR, ↓isCell_argsR, cells_argsR, cellsX_agg, cellsX_int, cellsX_bool, cellsX_str, cellsX_nils, cellsX_sl, cellsX_own, cellsX_ptr, cellsX_cptr, cellsX_undef, dedup_rowsD, nodup_rowsD, all_rowsD, all_rowsT, small_rowsD, bad_argsR, ptr_argsR, mapO_argsR, imp_argsR, lend_argsR4, shut_argsR, mem_rowsD, allmem_rowsD, after_D, freeze_ite, frzB_argsR, away_argsR, calm_argsR, opS_call, slidM_io1, slidM_io2, away_F, away_ptr, away_int, away_bool, away_nils, away_undef, away_sl, away_agg, away_own, look_nil, evCall_io1, evCall_io2, evCall_io3, evCall_io4, finJ_1, finJ_2, finJ_3, finJ_4, finJ_int, finJ_bool, finJ_str, finJ_nils, finJ_agg, finJ_own, finJ_sl, finJ_tup, look_cons, reduceCtorEq, evCall_mutOwn, evCall_mutAgg, evGive, giveRows, ioBoxes, mutArgs, roArgs, handArg, mutSlots, isPtrB, pairs, pairss, back_nil, back_cons, backO, backE, setBoxes, importB, mode_mut, mode_give, mode_io, mode_ro, List.zip_cons_cons, List.zip_nil_left, List.zip_nil_right, ite_self, ite_true, ite_false, finish_give, finish_mut1, finish_io0, finish_io2, finish_io3, finish_ioc, finI, finC, finW_ptr, SO, SH, frzO, frzE, AV.laid, AV.treeV, AV.treeC, St.laid, spent, AV.subs, AV.shut, AV.scal, AV.scals, evBuildSlice, elemsOf, zeroOK, noref, isRef, small, import_, AV.any, AV.anys, isPtr, finV, rename, noPtr, isBad, AV.isUndef, St.setRow, AV.shutV, rebuild, isAggV, evBuild, fillCells, evCutOwn, dedup, nodupB, idx, AV.rows, AV.rowss, AV.mapO, AV.mapOs, firstRegion, gc, keptBoxes, keptRows, renameB, AV.boxes, AV.boxess, leaf_some, isNormal, ifEv_bool, gate_bool, gateP_bool, gateQ_bool, pick_bool, SN, evCutRow, Int.reduceToNat, id_eq, Int.reduceBEq, Int.reduceLE, Int.reduceLT, SS, one_ne2, num_ne2, TIS, MDS, wanted, numbered, plainC, plainS, evEq, eqK, evBox, evAlloc, evStore, evLoad, evFieldAddr, behind, takeVal, AV.isCell, ofCells, ofCell, Value.cells, Nat.reduceAdd, Nat.reduceEqDiff, Nat.reduceLT, Nat.reduceLeDiff, Nat.reduceMul, Nat.reduceSub, reduceIte]
      try trace_state
    · intro pre z r _ hs' _
      have hpl : pre.length < 6 - X.1.length := by have := congrArg List.length hs'; simp at this; omega
      clear hs'
      have hxl := hX.len
      have h0 : (((fillN X.1 pre.length).length : Nat) : Int) < 6 := by rw [fillN_len hX _ (by omega) (by omega)]; omega
      have hwt := fillN_w (l := X.1) pre.length
      have c10 := c8 (fillN X.1 pre.length) (by rw [pubE_w]; simp -implicitDefEqProofs only [List.length_nil, wl]; omega)
      simp -implicitDefEqProofs only [fillN]
      generalize fillN X.1 pre.length = Y at *
      generalize publish Y (pubE Y [] [] 30) = Y2 at *
      simp -implicitDefEqProofs only [QS, QN, QG, QO, h0, c10, frD_rows, frD_noref, tscals_S, tshuts_S, rows_rowQ, boxes_rowQ, ↓isCell_rowQ, cells_rowQ, dedup_rowsQ, nodup_rowsQ, all_rowsQ, allT_rowsQ, small_rowsQ, bad_rowQ, ptr_rowQ, away_rowQ, mapO_rowQ, imp_rowQ, lend_rowQ, shut_rowQ, mem_rowsQ, calm_rowQ, allD_rowsQ, allE_rowsQ, frzD_rowQ, frzB_rowQ, freezeD_all, rows_argsR, boxes_argsR, ↓isCell_argsR, cells_argsR, cellsX_agg, cellsX_int, cellsX_bool, cellsX_str, cellsX_nils, cellsX_sl, cellsX_own, cellsX_ptr, cellsX_cptr, cellsX_undef, dedup_rowsD, nodup_rowsD, all_rowsD, all_rowsT, small_rowsD, bad_argsR, ptr_argsR, mapO_argsR, imp_argsR, lend_argsR4, shut_argsR, mem_rowsD, allmem_rowsD, after_D, freeze_ite, frzB_argsR, away_argsR, calm_argsR, opS_call, slidM_io1, slidM_io2, away_F, away_ptr, away_int, away_bool, away_nils, away_undef, away_sl, away_agg, away_own, look_nil, evCall_io1, evCall_io2, evCall_io3, evCall_io4, finJ_1, finJ_2, finJ_3, finJ_4, finJ_int, finJ_bool, finJ_str, finJ_nils, finJ_agg, finJ_own, finJ_sl, finJ_tup, look_cons, reduceCtorEq, evCall_mutOwn, evCall_mutAgg, evGive, giveRows, ioBoxes, mutArgs, roArgs, handArg, mutSlots, isPtrB, pairs, pairss, back_nil, back_cons, backO, backE, setBoxes, importB, mode_mut, mode_give, mode_io, mode_ro, List.zip_cons_cons, List.zip_nil_left, List.zip_nil_right, ite_self, ite_true, ite_false, finish_give, finish_mut1, finish_io0, finish_io2, finish_io3, finish_ioc, finI, finC, finW_ptr, SO, SH, frzO, frzE, AV.laid, AV.treeV, AV.treeC, St.laid, spent, AV.subs, AV.shut, AV.scal, AV.scals, evBuildSlice, elemsOf, zeroOK, noref, isRef, small, import_, AV.any, AV.anys, isPtr, finV, rename, noPtr, isBad, AV.isUndef, St.setRow, AV.shutV, rebuild, isAggV, evBuild, fillCells, evCutOwn, dedup, nodupB, idx, AV.rows, AV.rowss, AV.mapO, AV.mapOs, firstRegion, gc, keptBoxes, keptRows, renameB, AV.boxes, AV.boxess, keep_5_4, leaf_some, isNormal, ifEv_bool, gate_bool, gateP_bool, gateQ_bool, pick_bool, SN, evCutRow, Int.reduceToNat, id_eq, Int.reduceBEq, Int.reduceLE, Int.reduceLT, SS, one_ne2, num_ne2, TIS, MDS, wanted, numbered, plainC, plainS, evEq, eqK, evBox, evAlloc, evStore, evLoad, evFieldAddr, behind, takeVal, AV.isCell, ofCells, ofCell, Value.cells, Nat.reduceAdd, Nat.reduceEqDiff, Nat.reduceLT, Nat.reduceLeDiff, Nat.reduceMul, Nat.reduceSub, reduceIte]
      try trace_state
    · simp -implicitDefEqProofs only [firstRegion]
      rw [keep_5_4]
      simp -implicitDefEqProofs only [QS, QN, QG, QO, fillN, SN, evCutRow, Int.reduceToNat, id_eq, Int.reduceBEq, Int.reduceLE, Int.reduceLT, SO, SH, frzO, frzE, AV.laid, AV.treeV, AV.treeC, St.laid, spent, AV.subs, AV.shut, AV.scal, AV.scals, evBuildSlice, elemsOf, zeroOK, evAppend, rowOf, noref, isRef, small, import_, AV.any, AV.anys, isPtr, finV, rename, noPtr, isBad, AV.isUndef, St.setRow, AV.shutV, rebuild, isAggV, evBuild, fillCells, evCutOwn, dedup, nodupB, idx, AV.rows, AV.rowss, AV.mapO, AV.mapOs, firstRegion, gc, keptBoxes, keptRows, renameB, AV.boxes, AV.boxess, SS, one_ne2, num_ne2, TIS, MDS, wanted, numbered, plainC, plainS, evEq, eqK, evBox, evAlloc, evStore, evLoad, evFieldAddr, behind, takeVal, AV.cells, AV.isCell, ofCells, ofCell, Value.cells, Nat.reduceAdd, Nat.reduceEqDiff, Nat.reduceLT, Nat.reduceLeDiff, Nat.reduceMul, Nat.reduceSub, reduceIte]
      try trace_state
    · rfl
end Go.Proofs.Ythjnobdeinodfaa.Flat
