/-
IsSafer: both sides.
-/
import Derived.Test.YtokjpncehggojaaGreatEqV
import Derived.Test.YtokjpncehggojaaGreatEqCO
import Derived.Test.YtokjpncehggojaaGreatEqII
set_option linter.unusedVariables false
set_option linter.unusedSimpArgs false
set_option maxRecDepth 10000
namespace Go.Proofs.YtokjpncehggojaaGreat.Flat
theorem small_rowsM {s : List Choice} {id : Nat} (h : id < 8) : ((rowsN id s).all fun i => decide (i < 8)) = true := by unfold rowsN; split <;> simp [h]
theorem small_rows1 {s : List Choice} : ((rowsN 1 s).all fun i => decide (i < 8)) = true := small_rowsM (by decide)
noncomputable def safeAtoms (p q : Policy) (a o : Int) : List Cond := atomsL a o q.rules (atomsOf p a o)
noncomputable def isSafer (p q : Policy) (a o : Int) : Bool :=
  compOk p a o && compOk q a o && (decide ((safeAtoms p q a o).length ≤ 6) && !((List.range (2 ^ (safeAtoms p q a o).length)).any fun i => polB p a o (safeAtoms p q a o) (valsOf (safeAtoms p q a o).length i) && !polB q a o (safeAtoms p q a o) (valsOf (safeAtoms p q a o).length i)))
theorem safeAtoms_facts (p q : Policy) (a o : Int) : Leaves (safeAtoms p q a o) ∧ (safeAtoms p q a o).length ≤ (atomsOf p a o).length + q.w := by
  have h := atomsL_facts a o q.rules (atomsOf p a o)
  exact ⟨h.1 (atomsOf_leaves p a o), h.2⟩
set_option maxHeartbeats 8000000 in
theorem r_impl_IsSafer (k : Nat) (hk : 884940186000000 + 90 ≤ k) (p q : Policy) (hp0 : p.w ≤ 268435456) (hq0 : q.w ≤ 268435456) (a o : Int) :
    run E noExt k 16 [p.enc true, q.enc true, .int .i64 a, .int .i64 o] [] = some (.bool (isSafer p q a o), []) := by
  have hp : p.w ≤ 1099511627776 := by omega
  have hq : q.w ≤ 1099511627776 := by omega
  have hal := atomsOf_len p a o
  have hav := atomsOf_leaves p a o
  have hsc := scals_leaves hav
  have hsq := scals_leaves (atomsOf_leaves q a o)
  have hjf := safeAtoms_facts p q a o
  have hsj := scals_leaves hjf.1
  have hs1 := wl_length Rule.w q.rules
  have hqr : wl Rule.w q.rules ≤ 268435456 := hq0
  have hs : q.rules.length ≤ 140737488355328 := by omega
  have c1 := r_impl_CompileFor (k - 1) (by omega) p hp0 a o
  have c2 := r_impl_CompileFor (k - 1) (by omega) q hq0 a o
  have c3 := fun (c : Rule) => r_impl_IsFor (fl := true) (k - 1) (by omega) c a o
  have c4 := fun (c : Rule) (hc : c ∈ q.rules) out ho hl => r_impl_gathered0 (fl := true) c.cond (k - 1) (by have := wl_mem (w := Rule.w) hc; have hw : c.w = c.cond.w := rfl; omega) (by have := wl_mem (w := Rule.w) hc; have hw : c.w = c.cond.w := rfl; omega) out ho hl
  have c5 := r_impl_valuesOf (k - 1) (by omega) (safeAtoms p q a o).length
  have c6 := fun v => r_impl_PolicyBy (fl := true) (f2 := true) (f3 := true) (k - 1) (by omega) p a o (safeAtoms p q a o) v hp (by rw [wl_leaves hjf.1]; omega)
  have c7 := fun v => r_impl_PolicyBy (fl := true) (f2 := true) (f3 := true) (k - 1) (by omega) q a o (safeAtoms p q a o) v hq (by rw [wl_leaves hjf.1]; omega)
  have e6 : ∀ v, polBy (ruleBy a o (safeAtoms p q a o) v) p.rules = polB p a o (safeAtoms p q a o) v := fun _ => rfl
  have e7 : ∀ v, polBy (ruleBy a o (safeAtoms p q a o) v) q.rules = polB q a o (safeAtoms p q a o) v := fun _ => rfl
  simp -implicitDefEqProofs only [e6] at c6
  simp -implicitDefEqProofs only [e7] at c7
  clear e6 e7
  have hyp := fun h => (compFor_yesI (p := p) (a := a) (o := o) h)
  have hyq := fun h => (compFor_yesI (p := q) (a := a) (o := o) h)
  have hnp := fun h => (compFor_noI (p := p) (a := a) (o := o) h)
  have hnq := fun h => (compFor_noI (p := q) (a := a) (o := o) h)
  unfold isSafer
  obtain ⟨k, rfl⟩ : ∃ j, k = j + 1 := ⟨k - 1, by omega⟩
  rw [run_succ rfl rfl, body_eq (nt := 85) (fn := Go.Proofs.Tryz.f16) (by kernel_rfl) rfl rfl rfl rfl rfl rfl rfl rfl]
  simp -implicitDefEqProofs only [Nat.add_sub_cancel, enc_Policy, enc_Rule, enc_Cond] at c1 c2 c3 c4 c5 c6 c7
  cases hA : compOk p a o with
  | false =>
    rw [hA, hnp hA] at c1
    cases hB : compOk q a o with
    | false =>
      rw [hB, hnq hB] at c2
      simp -implicitDefEqProofs only [W3, ↓D3, ↓DA, ↓DP, ↓DC, Go.Proofs.Tryz.f16, enc_Policy, c1, c2, ifEv_bool, gate_bool, pick_bool, if_false, if_true, SH, Int.reduceToNat, id_eq, Int.reduceBEq, Int.reduceLE, Int.reduceLT, Nat.reduceAdd, Nat.reduceEqDiff, Nat.reduceLT, Nat.reduceLeDiff, Nat.reduceMul, Nat.reduceSub, reduceIte]
    | true =>
      rw [hB, hyq hB] at c2
      simp -implicitDefEqProofs only [W3, ↓D3, ↓DA, Go.Proofs.Tryz.f16, enc_Policy, c1, c2, hsq, ifEv_bool, gate_bool, pick_bool, if_false, if_true, back_rowsN, rows_encR, boxes_encR, ↓isCell_encR, len_rowsN, dedup_rowsN, nodup_rowsN, all_rowsN, any_encR, mapO_encR, ref_encR, scal_encR, small_rowsN, lend_encR4, imp_encR, small_rows1, SH, noref, isRef, isPtr, noPtr, isBad, AV.isUndef, Int.reduceToNat, id_eq, Int.reduceBEq, Int.reduceLE, Int.reduceLT, AV.cells, AV.isCell, Value.cells, Nat.reduceAdd, Nat.reduceEqDiff, Nat.reduceLT, Nat.reduceLeDiff, Nat.reduceMul, Nat.reduceSub, reduceIte]
  | true =>
    rw [hA, hyp hA] at c1
    cases hB : compOk q a o with
    | false =>
      rw [hB, hnq hB] at c2
      simp -implicitDefEqProofs only [W3, ↓D3, ↓DA, Go.Proofs.Tryz.f16, enc_Policy, c1, c2, hsc, ifEv_bool, gate_bool, pick_bool, if_false, if_true, back_rowsN, rows_encR, boxes_encR, ↓isCell_encR, len_rowsN, dedup_rowsN, nodup_rowsN, all_rowsN, any_encR, mapO_encR, ref_encR, scal_encR, small_rowsN, lend_encR4, imp_encR, small_rows1, SH, noref, isRef, isPtr, noPtr, isBad, AV.isUndef, Int.reduceToNat, id_eq, Int.reduceBEq, Int.reduceLE, Int.reduceLT, AV.cells, AV.isCell, Value.cells, Nat.reduceAdd, Nat.reduceEqDiff, Nat.reduceLT, Nat.reduceLeDiff, Nat.reduceMul, Nat.reduceSub, reduceIte]
    | true =>
      rw [hB, hyq hB] at c2
      simp -implicitDefEqProofs only [Bool.true_and]
      simp -implicitDefEqProofs only [W4, ↓D4, ↓DA, Go.Proofs.Tryz.f16, enc_Policy, c1, c2, hsc, hsq, ifEv_bool, gate_bool, pick_bool, if_false, if_true, back_rowsN, rows_encR, boxes_encR, ↓isCell_encR, len_rowsN, dedup_rowsN, nodup_rowsN, all_rowsN, any_encR, mapO_encR, ref_encR, scal_encR, small_rowsN, lend_encR4, imp_encR, small_rows1, SH, noref, isRef, isPtr, noPtr, isBad, AV.isUndef, dedup, nodupB, idx, AV.rows, AV.rowss, AV.mapO, AV.mapOs, Int.reduceToNat, id_eq, Int.reduceBEq, Int.reduceLE, Int.reduceLT, AV.cells, AV.isCell, Value.cells, Nat.reduceAdd, Nat.reduceEqDiff, Nat.reduceLT, Nat.reduceLeDiff, Nat.reduceMul, Nat.reduceSub, reduceIte]
      rw [ev_loop]
      have hJ : atomsL a o q.rules (atomsOf p a o) = safeAtoms p q a o := rfl
      refine loop_list (Q := fun (g : List Cond) z => g = safeAtoms p q a o → thenEnd E.P _ _ 0 (thenEv E _ _ _ _ _ (outOf 0 z)) = some (.bool _, [])) q.rules (atStep a o) id
        (fun i b => { sl := [(2, .int .i64 a), (3, .int .i64 o), (4, .ptr 0 0), (5, .ptr 1 0), (13, .own 0 false 40 4 (b.map (Cond.enc true))), (41, .sl true (q.rules.map (Rule.enc true))), (42, .int .i64 (q.rules.length : Nat)), (43, .int .i64 (i : Nat))], bx := [(0, [.int .i64 p.version, .sl true (p.rules.map (Rule.enc true))]), (1, [.int .i64 q.version, .sl true (q.rules.map (Rule.enc true))])], nx := 3, nt := 85 })
        (fun i b => Leaves b ∧ b.length + wl Rule.w (q.rules.drop i) ≤ (atomsOf p a o).length + wl Rule.w q.rules) (atomsOf p a o) ?_ ?_ ?_ ⟨hav, by simp⟩ ?_ ((atLoop a o q.rules 0 (atomsOf p a o)).trans hJ)
      · intro b _
        simp -implicitDefEqProofs only [W4, ↓D4, ↓DA, ↓DP, ↓DC, leaf_some, isNormal, ifEv_bool, SH, dedup, nodupB, idx, AV.rows, AV.rowss, AV.mapO, AV.mapOs, Int.reduceToNat, id_eq, Int.reduceBEq, Int.reduceLE, Int.reduceLT, Nat.reduceAdd, Nat.reduceEqDiff, Nat.reduceLT, Nat.reduceLeDiff, Nat.reduceMul, Nat.reduceSub, reduceIte]
        intro he
        subst he
        clear hJ c1 c2 c3 c4
        generalize safeAtoms p q a o = at_ at *
        by_cases hn : at_.length ≤ 6
        · have hgt : decide (((at_.length : Nat) : Int) > 6) = false := decide_eq_false (by omega)
          have hle : decide (at_.length ≤ 6) = true := decide_eq_true hn
          have hsl : ∀ t, evBin2 E.P .shl t (.int .i64 1) (.int .i64 ((at_.length : Nat) : Int)) = some (.int .i64 ((2 ^ at_.length : Nat) : Int)) := fun t => by
            have h1 : (((at_.length : Nat) : Int) < 0) = False := eq_false (by omega)
            simp -implicitDefEqProofs only [evBin2, evBin, evShift, h1, if_false, shl_small at_.length (by omega)]
          have hN : 2 ^ at_.length ≤ 64 := Nat.le_trans (Nat.pow_le_pow_right (by decide) hn) (by decide)
          have c5 := fun i hi => c5 i hn hi
          rw [hle, Bool.true_and, ← anyLoopG _ _ 0]
          generalize (2 : Nat) ^ at_.length = N at *
          simp -implicitDefEqProofs only [W4, ↓D4, ↓DA, ↓DP, ↓DC, hgt, hsl, ifEv_bool, leaf_some, isNormal, if_false, if_true, SH, dedup, nodupB, idx, AV.rows, AV.rowss, AV.mapO, AV.mapOs, Int.reduceToNat, id_eq, Int.reduceBEq, Int.reduceLE, Int.reduceLT, Nat.reduceAdd, Nat.reduceEqDiff, Nat.reduceLT, Nat.reduceLeDiff, Nat.reduceMul, Nat.reduceSub, reduceIte]
          rw [ev_loop]
          refine loop_list (Q := fun (g : Bool) z => thenEnd E.P _ _ 0 (thenEv E _ _ _ _ _ (outOf 2 z)) = some (.bool (!g), [])) (List.range N) (anyStepG fun i => polB p a o at_ (valsOf at_.length i) && !polB q a o at_ (valsOf at_.length i)) (fun _ => false)
            (fun i _ => { sl := [(2, .int .i64 a), (3, .int .i64 o), (4, .ptr 0 0), (5, .ptr 1 0), (13, .own 0 false 40 4 (at_.map (Cond.enc true))), (61, .int .i64 (N : Nat)), (62, .int .i64 (i : Nat))], bx := [(0, [.int .i64 p.version, .sl true (p.rules.map (Rule.enc true))]), (1, [.int .i64 q.version, .sl true (q.rules.map (Rule.enc true))])], nx := 3, nt := 85 })
            (fun _ _ => True) () ?_ ?_ ?_ trivial ?_
          · intro _ _
            simp -implicitDefEqProofs only [W3, ↓D3, ↓DA, ↓DP, ↓DC, QX, List.length_range, SH, leaf_some, isNormal, Int.reduceToNat, id_eq, Int.reduceBEq, Int.reduceLE, Int.reduceLT, Nat.reduceAdd, Nat.reduceEqDiff, Nat.reduceLT, Nat.reduceLeDiff, Nat.reduceMul, Nat.reduceSub, reduceIte]
            repeat' (split <;> (rename_i h; (try simp -implicitDefEqProofs only [Bool.not_eq_true', Bool.not_eq_false', decide_eq_true_eq, decide_eq_false_iff_not] at h); (try simp -implicitDefEqProofs only [W3, ↓D3, ↓DA, ↓DP, ↓DC, QX, *, List.length_range, SH, leaf_some, isNormal, Int.reduceToNat, id_eq, Int.reduceBEq, Int.reduceLE, Int.reduceLT, Nat.reduceAdd, Nat.reduceEqDiff, Nat.reduceLT, Nat.reduceLeDiff, Nat.reduceMul, Nat.reduceSub, reduceIte])))
          · intro pre x r' _ hs' _
            obtain ⟨hxe, hpr⟩ := range_at hs'
            have h5 : ((pre.length : Int) < (N : Int)) = True := eq_true (by omega)
            have hw1 : IntKind.i64.wrap ((pre.length : Int) + 1) = ((pre.length + 1 : Nat) : Int) := by rw [IntWalk.i64_in _ (by omega)]; omega
            clear hs'
            subst hxe
            have c8 := c5 pre.length (by omega)
            have c9 := c6 (valsOf at_.length pre.length)
            have c10 := c7 (valsOf at_.length pre.length)
            have hst : anyStepG (fun i => polB p a o at_ (valsOf at_.length i) && !polB q a o at_ (valsOf at_.length i)) pre.length pre.length () = if (polB p a o at_ (valsOf at_.length pre.length) && !polB q a o at_ (valsOf at_.length pre.length)) = true then .inl true else .inr () := rfl
            clear c5 c6 c7
            generalize polB p a o at_ (valsOf at_.length pre.length) = e1 at *
            generalize polB q a o at_ (valsOf at_.length pre.length) = e2 at *
            cases e1 <;> cases e2 <;> simp -implicitDefEqProofs only [Bool.and_self, Bool.and_true, Bool.and_false, Bool.true_and, Bool.false_and, Bool.not_true, Bool.not_false, Bool.false_eq_true, if_false, if_true] at hst
            all_goals
              simp -implicitDefEqProofs only [W3, ↓D3, ↓DA, ↓DP, ↓DC, QX, h5, hw1, c8, c9, c10, hst, scals_bools2, hsj, if_false, if_true, SH, keep_16_15, leaf_some, isNormal, Int.reduceToNat, id_eq, Int.reduceBEq, Int.reduceLE, Int.reduceLT, Nat.reduceAdd, Nat.reduceEqDiff, Nat.reduceLT, Nat.reduceLeDiff, Nat.reduceMul, Nat.reduceSub, reduceIte]
              repeat' (split <;> (rename_i h; (try simp -implicitDefEqProofs only [Bool.not_eq_true', Bool.not_eq_false', decide_eq_true_eq, decide_eq_false_iff_not] at h); (try simp -implicitDefEqProofs only [W3, ↓D3, ↓DA, ↓DP, ↓DC, QX, *, h5, hw1, c8, c9, c10, hst, scals_bools2, hsj, if_false, if_true, SH, keep_16_15, leaf_some, isNormal, Int.reduceToNat, id_eq, Int.reduceBEq, Int.reduceLE, Int.reduceLT, Nat.reduceAdd, Nat.reduceEqDiff, Nat.reduceLT, Nat.reduceLeDiff, Nat.reduceMul, Nat.reduceSub, reduceIte])))
          · simp; omega
          · simp -implicitDefEqProofs only [firstRegion]
            rw [keep_16_15]
            simp -implicitDefEqProofs only [W3, ↓D3, ↓DA, ↓DP, ↓DC, Int.reduceToNat, id_eq, Int.reduceBEq, Int.reduceLE, Int.reduceLT, SH, Nat.reduceAdd, Nat.reduceEqDiff, Nat.reduceLT, Nat.reduceLeDiff, Nat.reduceMul, Nat.reduceSub, reduceIte]
        · have hgt : decide (((at_.length : Nat) : Int) > 6) = true := decide_eq_true (by omega)
          have hle : decide (at_.length ≤ 6) = false := decide_eq_false (by omega)
          rw [hle, Bool.false_and]
          simp -implicitDefEqProofs only [W3, ↓D3, ↓DA, ↓DP, ↓DC, QX, hgt, SH, leaf_some, isNormal, Int.reduceToNat, id_eq, Int.reduceBEq, Int.reduceLE, Int.reduceLT, Nat.reduceAdd, Nat.reduceEqDiff, Nat.reduceLT, Nat.reduceLeDiff, Nat.reduceMul, Nat.reduceSub, reduceIte]
          repeat' (split <;> (rename_i h; (try simp -implicitDefEqProofs only [Bool.not_eq_true', Bool.not_eq_false', decide_eq_true_eq, decide_eq_false_iff_not] at h); (try simp -implicitDefEqProofs only [W3, ↓D3, ↓DA, ↓DP, ↓DC, QX, *, hgt, SH, leaf_some, isNormal, Int.reduceToNat, id_eq, Int.reduceBEq, Int.reduceLE, Int.reduceLT, Nat.reduceAdd, Nat.reduceEqDiff, Nat.reduceLT, Nat.reduceLeDiff, Nat.reduceMul, Nat.reduceSub, reduceIte])))
      · intro pre c r b hs' ⟨hb1, hb2⟩
        have hx := (at_row hs' hs).1; have hc := (at_row hs' hs).2.1; have hlt := (at_row hs' hs).2.2.1; have hw1 := (at_row hs' hs).2.2.2.1; have hl9 := (at_row hs' hs).2.2.2.2
        have hd : q.rules.drop pre.length = c :: r := by rw [hs']; simp
        have hd1 : q.rules.drop (pre.length + 1) = r := by rw [hs']; simp
        have hg1 := gather_facts c.cond b
        have hw : c.w = c.cond.w := rfl
        rw [hd] at hb2
        simp -implicitDefEqProofs only [wl] at hb2
        have c8 := c3 c
        have c9 := c4 c hc b hb1 (by omega)
        have hI : Leaves (if isFor c a o = true then gather c.cond b else b) ∧ (if isFor c a o = true then gather c.cond b else b).length + wl Rule.w (q.rules.drop (pre.length + 1)) ≤ (atomsOf p a o).length + wl Rule.w q.rules := by
          rw [hd1]
          split
          · exact ⟨hg1.1 hb1, by have := hg1.2; omega⟩
          · exact ⟨hb1, by omega⟩
        have hst : atStep a o pre.length c b = .inr (if isFor c a o = true then gather c.cond b else b) := rfl
        clear hs' hd hd1 c1 c2 c3 c4 c5 c6 c7
        have hs1 := scals_leaves hb1
        have hs2 := scals_leaves (hg1.1 hb1)
        cases e : isFor c a o <;> rw [e] at c8 hst hI <;> simp -implicitDefEqProofs only [Bool.false_eq_true, if_false, if_true] at hst hI
        all_goals
          simp -implicitDefEqProofs only [W3, ↓D3, ↓DA, ↓DP, ↓DC, QX, enc_Rule, enc_Cond, hx, hlt, hw1, c8, c9, hs1, hs2, hst, evCall_rg, look_cons, reduceCtorEq, evCall_mutOwn, evCall_mutAgg, evGive, giveRows, ioBoxes, mutArgs, roArgs, handArg, mutSlots, isPtrB, pairs, pairss, back_nil, back_cons, backO, backE, setBoxes, importB, mode_mut, mode_give, mode_io, mode_ro, List.zip_cons_cons, List.zip_nil_left, List.zip_nil_right, ite_self, ite_true, ite_false, finish_give, finish_mut1, finish_io0, finish_io1, finish_io2, finish_io3, finish_ioc, finI, finC, finW_ptr, SH, keep_16_7, leaf_some, isNormal, Int.reduceToNat, id_eq, Int.reduceBEq, Int.reduceLE, Int.reduceLT, Nat.reduceAdd, Nat.reduceEqDiff, Nat.reduceLT, Nat.reduceLeDiff, Nat.reduceMul, Nat.reduceSub, reduceIte]
          repeat' (split <;> (rename_i h; (try simp -implicitDefEqProofs only [Bool.not_eq_true', Bool.not_eq_false', decide_eq_true_eq, decide_eq_false_iff_not] at h); (try simp -implicitDefEqProofs only [W3, ↓D3, ↓DA, ↓DP, ↓DC, QX, *, enc_Rule, enc_Cond, hx, hlt, hw1, c8, c9, hs1, hs2, hst, evCall_rg, look_cons, reduceCtorEq, evCall_mutOwn, evCall_mutAgg, evGive, giveRows, ioBoxes, mutArgs, roArgs, handArg, mutSlots, isPtrB, pairs, pairss, back_nil, back_cons, backO, backE, setBoxes, importB, mode_mut, mode_give, mode_io, mode_ro, List.zip_cons_cons, List.zip_nil_left, List.zip_nil_right, ite_self, ite_true, ite_false, finish_give, finish_mut1, finish_io0, finish_io1, finish_io2, finish_io3, finish_ioc, finI, finC, finW_ptr, SH, keep_16_7, leaf_some, isNormal, Int.reduceToNat, id_eq, Int.reduceBEq, Int.reduceLE, Int.reduceLT, Nat.reduceAdd, Nat.reduceEqDiff, Nat.reduceLT, Nat.reduceLeDiff, Nat.reduceMul, Nat.reduceSub, reduceIte])))
          exact hI
      · omega
      · simp -implicitDefEqProofs only [firstRegion]
        rw [keep_16_7]
        simp -implicitDefEqProofs only [W3, ↓D3, ↓DA, back_rowsN, rows_encR, boxes_encR, ↓isCell_encR, len_rowsN, dedup_rowsN, nodup_rowsN, all_rowsN, any_encR, mapO_encR, ref_encR, scal_encR, small_rowsN, lend_encR4, Int.reduceToNat, id_eq, Int.reduceBEq, Int.reduceLE, Int.reduceLT, SH, noref, isRef, isPtr, noPtr, isBad, AV.isUndef, AV.cells, AV.isCell, Value.cells, Nat.reduceAdd, Nat.reduceEqDiff, Nat.reduceLT, Nat.reduceLeDiff, Nat.reduceMul, Nat.reduceSub, reduceIte]
theorem cond_by {l : List Includes} {s : List Fact} {q : Request} {A : List Cond} {x : Cond} (hc : isCond x = true) (hA : ∀ y ∈ lv x, y ∈ A) :
    (x.eval fun c => (c.op == 1) || leafVal A (A.map (leafAt l s q)) c) = x.eval (leafAt l s q) := by
  have hv : x.valid = true := by unfold isCond at hc; rw [Bool.and_eq_true] at hc; exact hc.2
  refine eval_leaves _ _ (fun y hy => ?_) x hv (fun y hy => ?_)
  · simp [leafAt, hy]
  · have hlf := lv_lf x y hy
    have h1 : (y.op == 1) = false := by
      unfold isLf at hlf
      simp -implicitDefEqProofs only [inR, Bool.and_eq_true, decide_eq_true_eq] at hlf
      have := hlf.1
      simp; omega
    simp -implicitDefEqProofs only [h1, Bool.false_or]
    exact leafVal_map (hA y hy)
theorem rule_by {l : List Includes} {s : List Fact} {q : Request} {A : List Cond} {r : Rule} (hA : isFor r q.action q.object = true → ∀ y ∈ lv r.cond, y ∈ A) :
    ruleBy q.action q.object A (A.map (leafAt l s q)) r = ruleAt l s q r := by
  unfold ruleBy ruleAt evalAt
  cases hf : isFor r q.action q.object
  · simp
  · cases hc : isCond r.cond
    · simp
    · simp -implicitDefEqProofs only [Bool.true_and]
      exact cond_by hc (hA hf)
theorem pol_by {l : List Includes} {s : List Fact} {q : Request} {A : List Cond} {p : Policy} (hA : ∀ r ∈ p.rules, isFor r q.action q.object = true → ∀ y ∈ lv r.cond, y ∈ A) :
    polB p q.action q.object A (A.map (leafAt l s q)) = polBy (ruleAt l s q) p.rules := polBy_congr _ _ _ fun r hr => rule_by (hA r hr)
theorem decide_pol {l : List Includes} {s : List Fact} {p : Policy} {q : Request} (hq : isRequest q = true) (hp : isPolicy p = true) : decideBy l s p q = if polBy (ruleAt l s q) p.rules = true then 1 else 0 := by
  unfold decideBy
  rw [hq, hp, ← decided_pol]
  rcases decided_01 p.rules (holdL (ruleAt l s q) 0 p.rules) 0 0 (.inl rfl) with h | h
  · have : decided p.rules (holdL (ruleAt l s q) 0 p.rules) = 0 := h
    rw [this]; rfl
  · have : decided p.rules (holdL (ruleAt l s q) 0 p.rules) = 1 := h
    rw [this]; rfl
theorem decide_bad {l : List Includes} {s : List Fact} {p : Policy} {q : Request} (h : (isRequest q && isPolicy p) = false) : decideBy l s p q = 0 := by
  unfold decideBy
  rw [h]; rfl
theorem atoms_all {p : Policy} {a o : Int} {r : Rule} (hr : r ∈ p.rules) (hf : isFor r a o = true) : ∀ y ∈ lv r.cond, y ∈ atomsOf p a o := fun y hy => by
  unfold atomsOf
  rw [atomsL_foldl]
  exact mem_foldl _ _ _ (lvsFor_mem hr hf hy)
theorem request_object {q : Request} (h : isRequest q = true) : (0 ≤ q.action ∧ q.action ≤ 5) ∧ 40 ≤ q.object ∧ q.object ≤ 49 := by
  unfold isRequest at h
  simp -implicitDefEqProofs only [Bool.and_eq_true] at h
  have h1 := h.2.2.2.1
  have h2 := h.2.2.2.2.1
  unfold inR at h2
  simp -implicitDefEqProofs only [Bool.and_eq_true, decide_eq_true_eq] at h2
  unfold hasKind isName inR at h1
  simp -implicitDefEqProofs only [Bool.and_eq_true, decide_eq_true_eq, beq_iff_eq] at h1
  refine ⟨h2, ?_⟩
  have h3 := h1.1
  have h4 := h1.2
  rw [Int.tdiv_eq_ediv_of_nonneg (by omega), IntWalk.i64_in _ (by omega)] at h4
  omega
theorem policy_drop {p : Policy} {i : Nat} (h : isPolicy p = true) : isPolicy ⟨p.version, dropR p.rules i⟩ = true := by
  have hlen : (dropR p.rules i).length ≤ p.rules.length := by unfold dropR; simp; omega
  unfold isPolicy at h ⊢
  simp -implicitDefEqProofs only [Bool.and_eq_true, decide_eq_true_eq, List.all_eq_true] at h ⊢
  exact ⟨⟨h.1.1, by omega⟩, fun r hr => h.2 r (dropR_mem hr)⟩
theorem idle_same {l : List Includes} {s : List Fact} {p : Policy} {q : Request} {i : Nat} (hi : isIdle p (i : Int) = true) (hq : isRequest q = true) :
    decideBy l s p q = decideBy l s ⟨p.version, dropR p.rules i⟩ q := by
  unfold isIdle at hi
  simp -implicitDefEqProofs only [Bool.and_eq_true, Int.toNat_natCast, Bool.not_eq_true'] at hi
  obtain ⟨hp, _, hall⟩ := hi
  have hp2 := policy_drop (i := i) hp
  rw [decide_pol hq hp, decide_pol hq hp2]
  obtain ⟨⟨ha1, ha2⟩, ho1, ho2⟩ := request_object hq
  have hid : idleAt p ⟨p.version, dropR p.rules i⟩ q.action q.object = true := by
    rw [List.any_eq_false] at hall
    have h1 := hall q.action.toNat (List.mem_range.2 (by omega))
    rw [Bool.not_eq_true, List.any_eq_false] at h1
    have h2 := h1 (q.object - 40).toNat (List.mem_range.2 (by omega))
    have e1 : ((q.action.toNat : Nat) : Int) = q.action := by omega
    have e2 : 40 + (((q.object - 40).toNat : Nat) : Int) = q.object := by omega
    rw [e1, e2] at h2
    simpa using h2
  unfold idleAt sameB at hid
  simp -implicitDefEqProofs only [Bool.and_eq_true, decide_eq_true_eq, Bool.not_eq_true'] at hid
  obtain ⟨_, hs⟩ := hid
  rw [List.any_eq_false] at hs
  have hv : ((atomsOf p q.action q.object).map (leafAt l s q)).length = (atomsOf p q.action q.object).length := List.length_map _
  have h3 := hs (numV ((atomsOf p q.action q.object).map (leafAt l s q))) (List.mem_range.2 (by have := numV_lt ((atomsOf p q.action q.object).map (leafAt l s q)); rw [hv] at this; exact this))
  unfold diffAt at h3
  have hvals : valsOf (atomsOf p q.action q.object).length (numV ((atomsOf p q.action q.object).map (leafAt l s q))) = (atomsOf p q.action q.object).map (leafAt l s q) := by
    have := vals_self ((atomsOf p q.action q.object).map (leafAt l s q))
    rwa [hv] at this
  rw [hvals, pol_by fun r hr hf => atoms_all hr hf, pol_by (p := ⟨p.version, dropR p.rules i⟩) fun r hr hf => atoms_all (dropR_mem hr) hf] at h3
  have h4 : polBy (ruleAt l s q) p.rules = polBy (ruleAt l s q) (dropR p.rules i) := by simpa using h3
  rw [h4]
theorem safer_le {l : List Includes} {s : List Fact} {a b : Policy} {q : Request} (h : isSafer a b q.action q.object = true) : decideBy l s a q ≤ decideBy l s b q := by
  cases hq : isRequest q
  · rw [decide_bad (by rw [hq]; rfl), decide_bad (by rw [hq]; rfl)]
    exact Int.le_refl _
  · unfold isSafer at h
    simp -implicitDefEqProofs only [Bool.and_eq_true, Bool.not_eq_true'] at h
    obtain ⟨⟨ha, hb⟩, _, hall⟩ := h
    have hpa : isPolicy a = true := by unfold compOk at ha; rw [Bool.and_eq_true] at ha; exact ha.1
    have hpb : isPolicy b = true := by unfold compOk at hb; rw [Bool.and_eq_true] at hb; exact hb.1
    rw [decide_pol hq hpa, decide_pol hq hpb]
    rw [List.any_eq_false] at hall
    generalize hA : safeAtoms a b q.action q.object = A at *
    have hv : (A.map (leafAt l s q)).length = A.length := List.length_map _
    have h3 := hall (numV (A.map (leafAt l s q))) (List.mem_range.2 (by have := numV_lt (A.map (leafAt l s q)); rw [hv] at this; exact this))
    have hvals : valsOf A.length (numV (A.map (leafAt l s q))) = A.map (leafAt l s q) := by
      have := vals_self (A.map (leafAt l s q))
      rwa [hv] at this
    have hin : ∀ r, (r ∈ a.rules ∨ r ∈ b.rules) → isFor r q.action q.object = true → ∀ y ∈ lv r.cond, y ∈ A := by
      intro r hr hf y hy
      rw [← hA]
      unfold safeAtoms
      rw [atomsL_foldl]
      rcases hr with hr | hr
      · exact foldl_mem _ _ _ (atoms_all hr hf y hy)
      · exact mem_foldl _ _ _ (lvsFor_mem hr hf hy)
    rw [hvals, pol_by fun r hr hf => hin r (.inl hr) hf, pol_by fun r hr hf => hin r (.inr hr) hf] at h3
    cases h5 : polBy (ruleAt l s q) a.rules
    · rw [if_neg (by simp)]
      split <;> omega
    · rw [h5] at h3
      have h6 : polBy (ruleAt l s q) b.rules = true := by simpa using h3
      rw [h6]
      exact Int.le_refl _
theorem both_hold {l : List Includes} {s : List Fact} {q : Request} {a b : Cond} (ha : evalAt l s q a = true) (hb : evalAt l s q b = true) : canBoth a b = true := by
  unfold evalAt at ha hb
  rw [Bool.and_eq_true] at ha hb
  unfold canBoth
  rw [ha.1, hb.1, Bool.true_and, Bool.true_and]
  by_cases hl : 6 < (joinAtoms a b).length
  · rw [decide_eq_true hl]; rfl
  · rw [Bool.or_eq_true]
    right
    generalize hA : joinAtoms a b = A at *
    have hv : (A.map (leafAt l s q)).length = A.length := List.length_map _
    have hvals : valsOf A.length (numV (A.map (leafAt l s q))) = A.map (leafAt l s q) := by
      have := vals_self (A.map (leafAt l s q))
      rwa [hv] at this
    refine List.any_eq_true.2 ⟨numV (A.map (leafAt l s q)), List.mem_range.2 (by have := numV_lt (A.map (leafAt l s q)); rw [hv] at this; exact this), ?_⟩
    rw [hvals]
    unfold evBy
    have hja : ∀ y ∈ lv a, y ∈ A := fun y hy => by
      rw [← hA]; unfold joinAtoms
      rw [gather_foldl b, gather_foldl a]
      exact foldl_mem _ _ _ (mem_foldl _ _ _ hy)
    have hjb : ∀ y ∈ lv b, y ∈ A := fun y hy => by
      rw [← hA]; unfold joinAtoms
      rw [gather_foldl b]
      exact mem_foldl _ _ _ hy
    rw [ha.1, hb.1, cond_by ha.1 hja, cond_by hb.1 hjb, ha.2, hb.2]
    rfl
theorem meet_for {r t : Rule} {a o : Int} (h1 : isFor r a o = true) (h2 : isFor t a o = true) : meet r t = true := by
  unfold isFor at h1 h2
  unfold meet
  simp -implicitDefEqProofs only [Bool.and_eq_true, Bool.or_eq_true, beq_iff_eq] at h1 h2 ⊢
  obtain ⟨h3, h4⟩ := h1
  obtain ⟨h5, h6⟩ := h2
  refine ⟨?_, ?_⟩
  · rcases h3 with h3 | h3
    · exact .inl (.inr h3)
    · rcases h5 with h5 | h5
      · exact .inr h5
      · exact .inl (.inl (by rw [h3, h5]))
  · rcases h4 with h4 | h4
    · exact .inl (.inr h4)
    · rcases h6 with h6 | h6
      · exact .inr h6
      · exact .inl (.inl (by rw [h4, h6]))
theorem cLoop_mem (i : Nat) (a : Rule) : ∀ (s : List Rule) (k : Nat) (out : List Conflict) (c : Conflict), (c ∈ out ∨ ∃ j b, s[j]? = some b ∧ confAt a b = true ∧ c = ⟨(i : Nat), ((k + j : Nat) : Int)⟩) → c ∈ loopL (cStep i a) id k s out
  | [], k, out, c, h => by
    simp -implicitDefEqProofs only [loopL, id]
    rcases h with h | ⟨j, b, h, _⟩
    · exact h
    · simp at h
  | x :: r, k, out, c, h => by
    simp -implicitDefEqProofs only [loopL, cStep]
    refine cLoop_mem i a r (k + 1) _ c ?_
    rcases h with h | ⟨j, b, h1, h2, h3⟩
    · left
      split
      · exact List.mem_append_left _ h
      · exact h
    · cases j with
      | zero =>
        simp at h1
        subst h1
        left
        rw [if_pos h2, h3]
        simp
      | succ j =>
        right
        exact ⟨j, b, by simpa using h1, h2, by rw [h3, show k + 1 + j = k + (j + 1) by omega]⟩
theorem oLoop_mem (S : List Rule) : ∀ (s : List Rule) (i : Nat) (out : List Conflict) (c : Conflict), (c ∈ out ∨ ∃ j a, s[j]? = some a ∧ ∃ k b, S[k]? = some b ∧ confAt a b = true ∧ c = ⟨((i + j : Nat) : Int), (k : Nat)⟩) → c ∈ loopL (oStep S) id i s out
  | [], i, out, c, h => by
    simp -implicitDefEqProofs only [loopL, id]
    rcases h with h | ⟨j, b, h, _⟩
    · exact h
    · simp at h
  | x :: r, i, out, c, h => by
    simp -implicitDefEqProofs only [loopL, oStep]
    refine oLoop_mem S r (i + 1) _ c ?_
    rcases h with h | ⟨j, a, h1, k, b, h2, h3, h4⟩
    · exact .inl (cLoop_mem i x S 0 out c (.inl h))
    · cases j with
      | zero =>
        simp at h1
        subst h1
        exact .inl (cLoop_mem i x S 0 out c (.inr ⟨k, b, h2, h3, by rw [h4, Nat.zero_add]; rfl⟩))
      | succ j => exact .inr ⟨j, a, by simpa using h1, k, b, h2, h3, by rw [h4, show i + 1 + j = i + (j + 1) by omega]⟩
theorem conflict_told {l : List Includes} {s : List Fact} {p : Policy} {q : Request} {i k : Nat} {a b : Rule} (hi : p.rules[i]? = some a) (hk : p.rules[k]? = some b) (ha : ruleAt l s q a = true) (hb : ruleAt l s q b = true) (h1 : a.effect = 1) (h0 : b.effect = 0) :
    (⟨(i : Nat), (k : Nat)⟩ : Conflict) ∈ conflicts p := by
  unfold ruleAt at ha hb
  rw [Bool.and_eq_true] at ha hb
  refine oLoop_mem p.rules p.rules 0 [] _ (.inr ⟨i, a, hi, k, b, hk, ?_, by rw [Nat.zero_add]⟩)
  unfold confAt
  rw [h1, h0, meet_for ha.1 hb.1, both_hold ha.2 hb.2]
  rfl
end Go.Proofs.YtokjpncehggojaaGreat.Flat
