/-
Atoms, and conditions that can both hold.
-/
import Derived.Test.YtokjpncehggojaaGreatEqGA
import Derived.Test.YtokjpncehggojaaGreatEqU
import Derived.Test.YtokjpncehggojaaGreatEqFA
import Derived.Test.YtokjpncehggojaaGreatEqL
set_option linter.unusedVariables false
set_option linter.unusedSimpArgs false
set_option maxRecDepth 10000
namespace Go.Proofs.YtokjpncehggojaaGreat.Flat
noncomputable def atomsL (a o : Int) : List Rule → List Cond → List Cond
  | [], out => out
  | r :: rs, out => atomsL a o rs (if isFor r a o = true then gather r.cond out else out)
noncomputable def atomsOf (p : Policy) (a o : Int) : List Cond := atomsL a o p.rules []
noncomputable def atStep (a o : Int) (_ : Nat) (r : Rule) (b : List Cond) : Sum (List Cond) (List Cond) := .inr (if isFor r a o = true then gather r.cond b else b)
theorem atLoop (a o : Int) : ∀ (s : List Rule) (i : Nat) (b : List Cond), loopL (atStep a o) id i s b = atomsL a o s b
  | [], i, b => rfl
  | c :: r, i, b => by
    simp -implicitDefEqProofs only [loopL, atStep, atomsL]
    exact atLoop a o r _ _
theorem atomsL_facts (a o : Int) : ∀ (s : List Rule) (out : List Cond), (Leaves out → Leaves (atomsL a o s out)) ∧ (atomsL a o s out).length ≤ out.length + wl Rule.w s
  | [], out => ⟨fun h => h, by simp [atomsL, wl]⟩
  | c :: r, out => by
    have h1 := gather_facts c.cond out
    have hw : c.w = c.cond.w := rfl
    simp -implicitDefEqProofs only [atomsL, wl]
    cases e : isFor c a o
    · have h2 := atomsL_facts a o r out
      simp -implicitDefEqProofs only [Bool.false_eq_true, if_false]
      exact ⟨h2.1, by omega⟩
    · have h2 := atomsL_facts a o r (gather c.cond out)
      simp -implicitDefEqProofs only [if_true]
      exact ⟨fun h => h2.1 (h1.1 h), by omega⟩
theorem leaves_nil : Leaves [] := fun _ h => by simp at h
theorem atomsOf_leaves (p : Policy) (a o : Int) : Leaves (atomsOf p a o) := (atomsL_facts a o p.rules []).1 leaves_nil
theorem atomsOf_len (p : Policy) (a o : Int) : (atomsOf p a o).length ≤ p.w := by
  have := (atomsL_facts a o p.rules []).2
  unfold atomsOf Policy.w
  simpa using this
theorem r_impl_AtomsFor {fl : Bool} (k : Nat) (p : Policy) (hk : 290271069732864 + 4 * p.w + 30 ≤ k) (hp : p.w ≤ 1099511627776) (a o : Int) :
    run E noExt k 72 [p.enc fl, .int .i64 a, .int .i64 o] [] = some (.own 0 false 40 4 ((atomsOf p a o).map (Cond.enc true)), []) := by
  unfold Policy.w at hk hp
  have hs1 := wl_length Rule.w p.rules
  have hs : p.rules.length ≤ 140737488355328 := by omega
  have c1 := fun (c : Rule) => r_impl_IsFor (fl := fl) (k - 1) (by omega) c a o
  have c2 := fun (c : Rule) (hc : c ∈ p.rules) out ho hl => r_impl_gathered0 (fl := fl) c.cond (k - 1) (by have := wl_mem (w := Rule.w) hc; have hw : c.w = c.cond.w := rfl; omega) (by have := wl_mem (w := Rule.w) hc; have hw : c.w = c.cond.w := rfl; omega) out ho hl
  unfold atomsOf
  obtain ⟨k, rfl⟩ : ∃ j, k = j + 1 := ⟨k - 1, by omega⟩
  rw [run_succ rfl rfl, body_eq (nt := 28) (fn := Go.Proofs.Tryz.f72) (by kernel_rfl) rfl rfl rfl rfl rfl rfl rfl rfl]
  simp -implicitDefEqProofs only [Nat.add_sub_cancel, enc_Cond, enc_Rule] at c1 c2
  simp -implicitDefEqProofs only [W4, ↓D4, ↓DA, ↓DP, ↓DC, Go.Proofs.Tryz.f72, enc_Policy, SH, dedup, nodupB, idx, AV.rows, AV.rowss, AV.mapO, AV.mapOs, Int.reduceToNat, id_eq, Int.reduceBEq, Int.reduceLE, Int.reduceLT, Nat.reduceAdd, Nat.reduceEqDiff, Nat.reduceLT, Nat.reduceLeDiff, Nat.reduceMul, Nat.reduceSub, reduceIte]
  rw [ev_loop]
  refine Eq.trans (loop_list (Q := fun (g : List Cond) z => thenEnd E.P _ _ 0 (thenEv E _ _ _ _ _ (outOf 0 z)) = some (.own 0 false 40 4 (g.map (Cond.enc true)), [])) p.rules (atStep a o) id
    (fun i b => { sl := [(1, .int .i64 a), (2, .int .i64 o), (7, .own 0 false 40 4 (b.map (Cond.enc true))), (12, .sl fl (p.rules.map (Rule.enc fl))), (13, .int .i64 (p.rules.length : Nat)), (14, .int .i64 (i : Nat))], bx := [], nx := 1, nt := 28 })
    (fun i b => Leaves b ∧ b.length + wl Rule.w (p.rules.drop i) ≤ wl Rule.w p.rules) [] ?_ ?_ (by omega) ⟨leaves_nil, by simp⟩ ?_) ?_
  · intro b _
    simp -implicitDefEqProofs only [W3, ↓D3, ↓DA, ↓DP, ↓DC, QX, SH, leaf_some, isNormal, Int.reduceToNat, id_eq, Int.reduceBEq, Int.reduceLE, Int.reduceLT, Nat.reduceAdd, Nat.reduceEqDiff, Nat.reduceLT, Nat.reduceLeDiff, Nat.reduceMul, Nat.reduceSub, reduceIte]
    repeat' (split <;> (rename_i h; (try simp -implicitDefEqProofs only [Bool.not_eq_true', Bool.not_eq_false', decide_eq_true_eq, decide_eq_false_iff_not] at h); (try simp -implicitDefEqProofs only [W3, ↓D3, ↓DA, ↓DP, ↓DC, QX, *, SH, leaf_some, isNormal, Int.reduceToNat, id_eq, Int.reduceBEq, Int.reduceLE, Int.reduceLT, Nat.reduceAdd, Nat.reduceEqDiff, Nat.reduceLT, Nat.reduceLeDiff, Nat.reduceMul, Nat.reduceSub, reduceIte])))
  · intro pre c r b hs' ⟨hb1, hb2⟩
    have hx := (at_row hs' hs).1; have hc := (at_row hs' hs).2.1; have hlt := (at_row hs' hs).2.2.1; have hw1 := (at_row hs' hs).2.2.2.1; have hl9 := (at_row hs' hs).2.2.2.2
    have hd : p.rules.drop pre.length = c :: r := by rw [hs']; simp
    have hd1 : p.rules.drop (pre.length + 1) = r := by rw [hs']; simp
    have hg1 := gather_facts c.cond b
    have hw : c.w = c.cond.w := rfl
    rw [hd] at hb2
    simp -implicitDefEqProofs only [wl] at hb2
    have c3 := c1 c
    have c4 := c2 c hc b hb1 (by omega)
    have hI : Leaves (if isFor c a o = true then gather c.cond b else b) ∧ (if isFor c a o = true then gather c.cond b else b).length + wl Rule.w (p.rules.drop (pre.length + 1)) ≤ wl Rule.w p.rules := by
      rw [hd1]
      split
      · exact ⟨hg1.1 hb1, by have := hg1.2; omega⟩
      · exact ⟨hb1, by omega⟩
    have hst : atStep a o pre.length c b = .inr (if isFor c a o = true then gather c.cond b else b) := rfl
    clear hs' hd hd1 c1 c2
    have hs1 := scals_leaves hb1
    have hs2 := scals_leaves (hg1.1 hb1)
    cases e : isFor c a o <;> rw [e] at c3 hst hI <;> simp -implicitDefEqProofs only [Bool.false_eq_true, if_false, if_true] at hst hI
    all_goals
      simp -implicitDefEqProofs only [W3, ↓D3, ↓DA, ↓DP, ↓DC, QX, enc_Rule, enc_Cond, hx, hlt, hw1, c3, c4, hs1, hs2, hst, evCall_rg, look_cons, reduceCtorEq, evCall_mutOwn, evCall_mutAgg, evGive, giveRows, ioBoxes, mutArgs, roArgs, handArg, mutSlots, isPtrB, pairs, pairss, back_nil, back_cons, backO, backE, setBoxes, importB, mode_mut, mode_give, mode_io, mode_ro, List.zip_cons_cons, List.zip_nil_left, List.zip_nil_right, ite_self, ite_true, ite_false, finish_give, finish_mut1, finish_io0, finish_io1, finish_io2, finish_io3, finish_ioc, finI, finC, finW_ptr, SH, keep_72_3, leaf_some, isNormal, Int.reduceToNat, id_eq, Int.reduceBEq, Int.reduceLE, Int.reduceLT, Nat.reduceAdd, Nat.reduceEqDiff, Nat.reduceLT, Nat.reduceLeDiff, Nat.reduceMul, Nat.reduceSub, reduceIte]
      repeat' (split <;> (rename_i h; (try simp -implicitDefEqProofs only [Bool.not_eq_true', Bool.not_eq_false', decide_eq_true_eq, decide_eq_false_iff_not] at h); (try simp -implicitDefEqProofs only [W3, ↓D3, ↓DA, ↓DP, ↓DC, QX, *, enc_Rule, enc_Cond, hx, hlt, hw1, c3, c4, hs1, hs2, hst, evCall_rg, look_cons, reduceCtorEq, evCall_mutOwn, evCall_mutAgg, evGive, giveRows, ioBoxes, mutArgs, roArgs, handArg, mutSlots, isPtrB, pairs, pairss, back_nil, back_cons, backO, backE, setBoxes, importB, mode_mut, mode_give, mode_io, mode_ro, List.zip_cons_cons, List.zip_nil_left, List.zip_nil_right, ite_self, ite_true, ite_false, finish_give, finish_mut1, finish_io0, finish_io1, finish_io2, finish_io3, finish_ioc, finI, finC, finW_ptr, SH, keep_72_3, leaf_some, isNormal, Int.reduceToNat, id_eq, Int.reduceBEq, Int.reduceLE, Int.reduceLT, Nat.reduceAdd, Nat.reduceEqDiff, Nat.reduceLT, Nat.reduceLeDiff, Nat.reduceMul, Nat.reduceSub, reduceIte])))
      exact hI
  · simp -implicitDefEqProofs only [firstRegion]
    rw [keep_72_3]
    simp -implicitDefEqProofs only [W3, ↓D3, ↓DA, ↓DP, ↓DC, Int.reduceToNat, id_eq, Int.reduceBEq, Int.reduceLE, Int.reduceLT, SH, Nat.reduceAdd, Nat.reduceEqDiff, Nat.reduceLT, Nat.reduceLeDiff, Nat.reduceMul, Nat.reduceSub, reduceIte]
  · rw [atLoop]
noncomputable def evBy (x : Cond) (s : List Cond) (v : List Bool) : Bool := isCond x && x.eval fun c => (c.op == 1) || leafVal s v c
theorem isCond_w {x : Cond} (h : isCond x = true) : x.w ≤ 14 := by
  unfold isCond at h
  simp -implicitDefEqProofs only [Bool.and_eq_true, decide_eq_true_eq] at h
  omega
noncomputable def joinAtoms (a b : Cond) : List Cond := gather b (gather a [])
noncomputable def canBoth (a b : Cond) : Bool :=
  isCond a && isCond b && (decide (6 < (joinAtoms a b).length) || (List.range (2 ^ (joinAtoms a b).length)).any fun i => evBy a (joinAtoms a b) (valsOf (joinAtoms a b).length i) && evBy b (joinAtoms a b) (valsOf (joinAtoms a b).length i))
theorem joinAtoms_facts (a b : Cond) : Leaves (joinAtoms a b) ∧ (joinAtoms a b).length ≤ a.w + b.w + 2 := by
  have h1 := gather_facts a []
  have h2 := gather_facts b (gather a [])
  refine ⟨h2.1 (h1.1 leaves_nil), ?_⟩
  have h3 := h1.2
  have h4 := h2.2
  simp -implicitDefEqProofs only [List.length_nil] at h3
  unfold joinAtoms
  omega
theorem range_at {n : Nat} {pre r : List Nat} {x : Nat} (h : List.range n = pre ++ x :: r) : x = pre.length ∧ pre.length < n := by
  have h1 : (List.range n)[pre.length]? = some x := by rw [h]; simp
  obtain ⟨h2, h3⟩ := List.getElem?_eq_some_iff.1 h1
  rw [List.getElem_range] at h3
  simp at h2
  exact ⟨h3.symm, h2⟩
theorem r_impl_CanBothHold (k : Nat) (hk : 884940186000000 + 30 ≤ k) (a b : Cond) (ha0 : a.w ≤ 1073741824) (hb0 : b.w ≤ 1073741824) :
    run E noExt k 23 [a.enc true, b.enc true] [] = some (.bool (canBoth a b), []) := by
  have ha : a.w ≤ 1099511627776 := by omega
  have hb : b.w ≤ 1099511627776 := by omega
  have c1 := r_impl_IsCond (fl := true) (k - 1) (by omega) a ha
  have c2 := r_impl_IsCond (fl := true) (k - 1) (by omega) b hb
  have hj := joinAtoms_facts a b
  have c3 := r_impl_LeavesOf (fl := true) (k - 1) a (by omega) ha
  have c4 := r_impl_gathered0 (fl := true) b (k - 1) (by omega) hb (gather a []) ((gather_facts a []).1 leaves_nil) (by have := (gather_facts a []).2; simp -implicitDefEqProofs only [List.length_nil] at this; omega)
  have c5 := r_impl_valuesOf (k - 1) (by omega) (joinAtoms a b).length
  have c6 := fun v => r_impl_EvalBy (fl := true) (f2 := true) (f3 := true) (k - 1) (by omega) a (joinAtoms a b) v ha (by rw [wl_leaves hj.1]; omega)
  have c7 := fun v => r_impl_EvalBy (fl := true) (f2 := true) (f3 := true) (k - 1) (by omega) b (joinAtoms a b) v hb (by rw [wl_leaves hj.1]; omega)
  have hs1 := scals_leaves ((gather_facts a []).1 leaves_nil)
  have hs2 := scals_leaves hj.1
  unfold canBoth
  obtain ⟨k, rfl⟩ : ∃ j, k = j + 1 := ⟨k - 1, by omega⟩
  rw [run_succ rfl rfl, body_eq (nt := 44) (fn := Go.Proofs.Tryz.f23) (by kernel_rfl) rfl rfl rfl rfl rfl rfl rfl rfl]
  have e6 : ∀ v, (isCond a && a.eval fun c => (c.op == 1) || leafVal (joinAtoms a b) v c) = evBy a (joinAtoms a b) v := fun _ => rfl
  have e7 : ∀ v, (isCond b && b.eval fun c => (c.op == 1) || leafVal (joinAtoms a b) v c) = evBy b (joinAtoms a b) v := fun _ => rfl
  simp -implicitDefEqProofs only [e6] at c6
  simp -implicitDefEqProofs only [e7] at c7
  rw [show gather b (gather a []) = joinAtoms a b from rfl] at c4
  simp -implicitDefEqProofs only [Nat.add_sub_cancel] at c5
  simp -implicitDefEqProofs only [Nat.add_sub_cancel, enc_Cond] at c1 c2 c3 c4 c6 c7
  cases hA : isCond a with
  | false =>
    rw [hA] at c1
    simp -implicitDefEqProofs only [W3, ↓D3, ↓DA, ↓DP, ↓DC, Go.Proofs.Tryz.f23, enc_Cond, c1, ifEv_bool, gate_bool, pick_bool, if_false, if_true, SH, Int.reduceToNat, id_eq, Int.reduceBEq, Int.reduceLE, Int.reduceLT, Nat.reduceAdd, Nat.reduceEqDiff, Nat.reduceLT, Nat.reduceLeDiff, Nat.reduceMul, Nat.reduceSub, reduceIte]
  | true =>
    rw [hA] at c1
    cases hB : isCond b with
    | false =>
      rw [hB] at c2
      simp -implicitDefEqProofs only [W3, ↓D3, ↓DA, ↓DP, ↓DC, Go.Proofs.Tryz.f23, enc_Cond, c1, c2, ifEv_bool, gate_bool, pick_bool, if_false, if_true, SH, Int.reduceToNat, id_eq, Int.reduceBEq, Int.reduceLE, Int.reduceLT, Nat.reduceAdd, Nat.reduceEqDiff, Nat.reduceLT, Nat.reduceLeDiff, Nat.reduceMul, Nat.reduceSub, reduceIte]
    | true =>
      rw [hB] at c2
      have hlen : (joinAtoms a b).length ≤ 30 := by have h1 := isCond_w hA; have h2 := isCond_w hB; omega
      simp -implicitDefEqProofs only [Bool.true_and]
      generalize joinAtoms a b = at_ at *
      by_cases hn : at_.length ≤ 6
      · have hgt : decide (((at_.length : Nat) : Int) > 6) = false := decide_eq_false (by omega)
        have hgt2 : decide (6 < at_.length) = false := decide_eq_false (by omega)
        have hsl : ∀ t, evBin2 E.P .shl t (.int .i64 1) (.int .i64 ((at_.length : Nat) : Int)) = some (.int .i64 ((2 ^ at_.length : Nat) : Int)) := fun t => by
          have h1 : (((at_.length : Nat) : Int) < 0) = False := eq_false (by omega)
          simp -implicitDefEqProofs only [evBin2, evBin, evShift, h1, if_false, shl_small at_.length (by omega)]
        have hN : 2 ^ at_.length ≤ 64 := Nat.le_trans (Nat.pow_le_pow_right (by decide) hn) (by decide)
        have c5 := fun i hi => c5 i hn hi
        rw [hgt2, Bool.false_or, ← anyLoopG _ _ 0]
        generalize (2 : Nat) ^ at_.length = N at *
        simp -implicitDefEqProofs only [W3, ↓D3, ↓DA, ↓DP, ↓DC, Go.Proofs.Tryz.f23, enc_Cond, c1, c2, c3, c4, hs1, hs2, hgt, hsl, evCall_rg, plan_23_3, ifEv_bool, gate_bool, pick_bool, if_false, if_true, look_cons, reduceCtorEq, evCall_mutOwn, evCall_mutAgg, evGive, giveRows, ioBoxes, mutArgs, roArgs, handArg, mutSlots, isPtrB, pairs, pairss, back_nil, back_cons, backO, backE, setBoxes, importB, mode_mut, mode_give, mode_io, mode_ro, List.zip_cons_cons, List.zip_nil_left, List.zip_nil_right, ite_self, ite_true, ite_false, finish_give, finish_mut1, finish_io0, finish_io1, finish_io2, finish_io3, finish_ioc, finI, finC, finW_ptr, SH, Int.reduceToNat, id_eq, Int.reduceBEq, Int.reduceLE, Int.reduceLT, Nat.reduceAdd, Nat.reduceEqDiff, Nat.reduceLT, Nat.reduceLeDiff, Nat.reduceMul, Nat.reduceSub, reduceIte]
        rw [ev_loop]
        refine loop_list (Q := fun (g : Bool) z => thenEnd E.P _ _ 0 (thenEv E _ _ _ _ _ (outOf 0 z)) = some (.bool g, [])) (List.range N) (anyStepG fun i => evBy a at_ (valsOf at_.length i) && evBy b at_ (valsOf at_.length i)) (fun _ => false)
          (fun i _ => { sl := [(2, .ptr 0 0), (3, .ptr 1 0), (5, .own 0 false 40 4 (at_.map (Cond.enc true))), (25, .int .i64 (N : Nat)), (26, .int .i64 (i : Nat))], bx := [(0, [.int .i64 a.op, .int .i64 a.a, .int .i64 a.b, .sl true (a.args.map (Cond.enc true))]), (1, [.int .i64 b.op, .int .i64 b.a, .int .i64 b.b, .sl true (b.args.map (Cond.enc true))])], nx := 3, nt := 44 })
          (fun _ _ => True) () ?_ ?_ ?_ trivial ?_
        · intro _ _
          simp -implicitDefEqProofs only [W3, ↓D3, ↓DA, ↓DP, ↓DC, QX, List.length_range, SH, leaf_some, isNormal, Int.reduceToNat, id_eq, Int.reduceBEq, Int.reduceLE, Int.reduceLT, Nat.reduceAdd, Nat.reduceEqDiff, Nat.reduceLT, Nat.reduceLeDiff, Nat.reduceMul, Nat.reduceSub, reduceIte]
          repeat' (split <;> (rename_i h; (try simp -implicitDefEqProofs only [Bool.not_eq_true', Bool.not_eq_false', decide_eq_true_eq, decide_eq_false_iff_not] at h); (try simp -implicitDefEqProofs only [W3, ↓D3, ↓DA, ↓DP, ↓DC, QX, *, List.length_range, SH, leaf_some, isNormal, Int.reduceToNat, id_eq, Int.reduceBEq, Int.reduceLE, Int.reduceLT, Nat.reduceAdd, Nat.reduceEqDiff, Nat.reduceLT, Nat.reduceLeDiff, Nat.reduceMul, Nat.reduceSub, reduceIte])))
        · intro pre x r' _ hs' _
          obtain ⟨hxe, hp⟩ := range_at hs'
          have h5 : ((pre.length : Int) < (N : Int)) = True := eq_true (by omega)
          have hw1 : IntKind.i64.wrap ((pre.length : Int) + 1) = ((pre.length + 1 : Nat) : Int) := by rw [IntWalk.i64_in _ (by omega)]; omega
          clear hs'
          subst hxe
          have c8 := c5 pre.length (by omega)
          have c9 := c6 (valsOf at_.length pre.length)
          have c10 := c7 (valsOf at_.length pre.length)
          have hst : anyStepG (fun i => evBy a at_ (valsOf at_.length i) && evBy b at_ (valsOf at_.length i)) pre.length pre.length () = if (evBy a at_ (valsOf at_.length pre.length) && evBy b at_ (valsOf at_.length pre.length)) = true then .inl true else .inr () := rfl
          clear c5 c6 c7
          generalize evBy a at_ (valsOf at_.length pre.length) = e1 at *
          generalize evBy b at_ (valsOf at_.length pre.length) = e2 at *
          cases e1 <;> cases e2 <;> simp -implicitDefEqProofs only [Bool.and_self, Bool.and_true, Bool.and_false, Bool.false_eq_true, if_false, if_true] at hst
          all_goals
            simp -implicitDefEqProofs only [W3, ↓D3, ↓DA, ↓DP, ↓DC, QX, h5, hw1, c8, c9, c10, hst, scals_bools2, if_false, if_true, SH, keep_23_7, leaf_some, isNormal, Int.reduceToNat, id_eq, Int.reduceBEq, Int.reduceLE, Int.reduceLT, Nat.reduceAdd, Nat.reduceEqDiff, Nat.reduceLT, Nat.reduceLeDiff, Nat.reduceMul, Nat.reduceSub, reduceIte]
            repeat' (split <;> (rename_i h; (try simp -implicitDefEqProofs only [Bool.not_eq_true', Bool.not_eq_false', decide_eq_true_eq, decide_eq_false_iff_not] at h); (try simp -implicitDefEqProofs only [W3, ↓D3, ↓DA, ↓DP, ↓DC, QX, *, h5, hw1, c8, c9, c10, hst, scals_bools2, if_false, if_true, SH, keep_23_7, leaf_some, isNormal, Int.reduceToNat, id_eq, Int.reduceBEq, Int.reduceLE, Int.reduceLT, Nat.reduceAdd, Nat.reduceEqDiff, Nat.reduceLT, Nat.reduceLeDiff, Nat.reduceMul, Nat.reduceSub, reduceIte])))
        · simp; omega
        · simp -implicitDefEqProofs only [firstRegion]
          rw [keep_23_7]
          simp -implicitDefEqProofs only [W3, ↓D3, ↓DA, ↓DP, ↓DC, Int.reduceToNat, id_eq, Int.reduceBEq, Int.reduceLE, Int.reduceLT, SH, Nat.reduceAdd, Nat.reduceEqDiff, Nat.reduceLT, Nat.reduceLeDiff, Nat.reduceMul, Nat.reduceSub, reduceIte]
      · have hgt : decide (((at_.length : Nat) : Int) > 6) = true := decide_eq_true (by omega)
        have hgt2 : decide (6 < at_.length) = true := decide_eq_true (by omega)
        rw [hgt2, Bool.true_or]
        simp -implicitDefEqProofs only [W3, ↓D3, ↓DA, ↓DP, ↓DC, Go.Proofs.Tryz.f23, enc_Cond, c1, c2, c3, c4, hs1, hs2, hgt, evCall_rg, plan_23_3, ifEv_bool, gate_bool, pick_bool, if_false, if_true, look_cons, reduceCtorEq, evCall_mutOwn, evCall_mutAgg, evGive, giveRows, ioBoxes, mutArgs, roArgs, handArg, mutSlots, isPtrB, pairs, pairss, back_nil, back_cons, backO, backE, setBoxes, importB, mode_mut, mode_give, mode_io, mode_ro, List.zip_cons_cons, List.zip_nil_left, List.zip_nil_right, ite_self, ite_true, ite_false, finish_give, finish_mut1, finish_io0, finish_io1, finish_io2, finish_io3, finish_ioc, finI, finC, finW_ptr, SH, Int.reduceToNat, id_eq, Int.reduceBEq, Int.reduceLE, Int.reduceLT, Nat.reduceAdd, Nat.reduceEqDiff, Nat.reduceLT, Nat.reduceLeDiff, Nat.reduceMul, Nat.reduceSub, reduceIte]
def polStep (f : Rule → Bool) (_ : Nat) (r : Rule) (yes : Bool) : Sum Bool Bool := if f r = true then (if (r.effect == 0) = true then .inl false else .inr (yes || (r.effect == 1))) else .inr yes
def polBy (f : Rule → Bool) (s : List Rule) : Bool := loopL (polStep f) id 0 s false
def holdStep (f : Rule → Bool) (i : Nat) (r : Rule) (b : List Int) : Sum (List Int) (List Int) := .inr (if f r = true then b ++ [(i : Int)] else b)
def holdL (f : Rule → Bool) : Nat → List Rule → List Int
  | _, [] => []
  | i, r :: s => if f r = true then (i : Int) :: holdL f (i + 1) s else holdL f (i + 1) s
theorem holdLoop (f : Rule → Bool) : ∀ (s : List Rule) (i : Nat) (b : List Int), loopL (holdStep f) id i s b = b ++ holdL f i s
  | [], i, b => by simp [loopL, holdL]
  | r :: s, i, b => by
    simp -implicitDefEqProofs only [loopL, holdStep, holdL]
    rw [holdLoop f s]
    cases f r <;> simp
theorem holdL_length (f : Rule → Bool) : ∀ (s : List Rule) (i : Nat), (holdL f i s).length ≤ s.length
  | [], i => by simp [holdL]
  | r :: s, i => by
    have := holdL_length f s (i + 1)
    simp -implicitDefEqProofs only [holdL]
    split <;> simp <;> omega
theorem holdL_mem (f : Rule → Bool) : ∀ (s : List Rule) (i : Nat) (z : Int), z ∈ holdL f i s → ∃ j, z = ((i + j : Nat) : Int) ∧ j < s.length
  | [], i, z, h => by simp [holdL] at h
  | r :: s, i, z, h => by
    simp -implicitDefEqProofs only [holdL] at h
    have go : z ∈ holdL f (i + 1) s → ∃ j, z = ((i + j : Nat) : Int) ∧ j < (r :: s).length := fun h => by
      obtain ⟨j, h1, h2⟩ := holdL_mem f s (i + 1) z h
      exact ⟨j + 1, by omega, by simp; omega⟩
    split at h
    · rcases List.mem_cons.1 h with rfl | h
      · exact ⟨0, by simp, by simp⟩
      · exact go h
    · exact go h
def decStep (rules : List Rule) (_ : Nat) (z : Int) (out : Int) : Sum Int Int :=
  if ((rules.getD z.toNat default).effect == 0) = true then .inl 0 else if ((rules.getD z.toNat default).effect == 1) = true then .inr 1 else .inr out
def decided (rules : List Rule) (hold : List Int) : Int := loopL (decStep rules) id 0 hold 0
theorem decLoop (f : Rule → Bool) (rules : List Rule) : ∀ (s pre : List Rule) (i : Nat) (out : Int) (yes : Bool) (q : Nat), rules = pre ++ s → (out == 1) = yes →
    (loopL (decStep rules) id i (holdL f pre.length s) out == 1) = loopL (polStep f) id q s yes
  | [], pre, i, out, yes, q, hr, hy => by simpa [loopL, holdL] using hy
  | r :: s, pre, i, out, yes, q, hr, hy => by
    have hg : rules.getD ((pre.length : Nat) : Int).toNat default = r := by rw [hr]; simp
    have ih := fun i out yes q h => decLoop f rules s (pre ++ [r]) i out yes q (by rw [hr]; simp) h
    simp -implicitDefEqProofs only [List.length_append, List.length_cons, List.length_nil] at ih
    simp -implicitDefEqProofs only [holdL, loopL, polStep]
    cases hf : f r
    · simp -implicitDefEqProofs only [Bool.false_eq_true, if_false]
      exact ih _ _ _ _ hy
    · simp -implicitDefEqProofs only [if_true, loopL, decStep, hg]
      cases h0 : r.effect == 0
      · simp -implicitDefEqProofs only [Bool.false_eq_true, if_false]
        cases h1 : r.effect == 1
        · simp -implicitDefEqProofs only [Bool.false_eq_true, if_false, Bool.or_false]
          exact ih _ _ _ _ hy
        · simp -implicitDefEqProofs only [if_true, Bool.or_true]
          exact ih _ _ _ _ (by simp)
      · simp
theorem decided_pol (f : Rule → Bool) (rules : List Rule) : (decided rules (holdL f 0 rules) == 1) = polBy f rules := decLoop f rules rules [] 0 0 false 0 rfl (by simp)
theorem r_impl_decided {fl f2 : Bool} (k : Nat) (hk : 281474976710656 + 1 ≤ k) (p : Policy) (h : List Int) (hp : p.rules.length ≤ 140737488355328) (hs : h.length ≤ 140737488355328) (hm : ∀ z ∈ h, ∃ j, z = ((j : Nat) : Int) ∧ j < p.rules.length) :
    run E noExt k 36 [p.enc fl, .sl f2 (h.map (AV.int .i64))] [] = some (.int .i64 (decided p.rules h), []) := by
  obtain ⟨k, rfl⟩ : ∃ j, k = j + 1 := ⟨k - 1, by omega⟩
  rw [run_succ rfl rfl, body_eq (nt := 26) (fn := Go.Proofs.Tryz.f36) (by kernel_rfl) rfl rfl rfl rfl rfl rfl rfl rfl]
  simp -implicitDefEqProofs only [W1, ↓D1, ↓DC, Go.Proofs.Tryz.f36, enc_Policy, Int.reduceToNat, id_eq, Int.reduceBEq, Int.reduceLE, Int.reduceLT, Nat.reduceAdd, Nat.reduceEqDiff, Nat.reduceLT, Nat.reduceLeDiff, Nat.reduceMul, Nat.reduceSub, reduceIte]
  rw [ev_loop]
  refine Eq.trans (loop_list (Q := fun g x => thenEnd E.P [] _ 0 (thenEv E _ _ _ _ _ (outOf 0 x)) = some (.int .i64 g, [])) (h) (decStep p.rules) (id)
    (fun i b => { sl := [(2, .ptr 0 0), (5, .int .i64 b), (8, .sl f2 (h.map (AV.int .i64))), (9, .int .i64 (h.length : Nat)), (10, .int .i64 (i : Nat))], bx := [(0, [.int .i64 p.version, .sl fl (p.rules.map (Rule.enc fl))])], nx := 1, nt := 26 }) (fun _ _ => True) (0) ?_ ?_ (by first | omega | (simp; omega)) (trivial) ?_) ?_
  · intro b _
    simp -implicitDefEqProofs only [W2, ↓D2, ↓DC, QX, leaf_some, isNormal, Int.reduceToNat, id_eq, Int.reduceBEq, Int.reduceLE, Int.reduceLT, Nat.reduceAdd, Nat.reduceEqDiff, Nat.reduceLT, Nat.reduceLeDiff, Nat.reduceMul, Nat.reduceSub, reduceIte]
    repeat' (split <;> (rename_i h; (try simp -implicitDefEqProofs only [Bool.not_eq_true', Bool.not_eq_false', decide_eq_true_eq, decide_eq_false_iff_not] at h); (try simp -implicitDefEqProofs only [W2, ↓D2, ↓DC, QX, *, leaf_some, isNormal, Int.reduceToNat, id_eq, Int.reduceBEq, Int.reduceLE, Int.reduceLT, Nat.reduceAdd, Nat.reduceEqDiff, Nat.reduceLT, Nat.reduceLeDiff, Nat.reduceMul, Nat.reduceSub, reduceIte])))
  · intro pre c r b hs' _
    have hx := (at_row hs' hs).1; have hc := (at_row hs' hs).2.1; have hlt := (at_row hs' hs).2.2.1; have hw1 := (at_row hs' hs).2.2.2.1; have hl9 := (at_row hs' hs).2.2.2.2
    clear hs'
    obtain ⟨j, rfl, hj⟩ := hm c hc
    have hr : p.rules[j]? = some (p.rules.getD j default) := by
      rw [List.getD_eq_getElem?_getD, List.getElem?_eq_getElem hj]; rfl
    simp -implicitDefEqProofs only [W2, ↓D2, ↓DC, QX, enc_Rule, hx, hlt, hw1, hr, decStep, keep_36_3, leaf_some, isNormal, Int.reduceToNat, id_eq, Int.reduceBEq, Int.reduceLE, Int.reduceLT, Nat.reduceAdd, Nat.reduceEqDiff, Nat.reduceLT, Nat.reduceLeDiff, Nat.reduceMul, Nat.reduceSub, reduceIte]
    repeat' (split <;> (rename_i h; (try simp -implicitDefEqProofs only [Bool.not_eq_true', Bool.not_eq_false', decide_eq_true_eq, decide_eq_false_iff_not] at h); (try simp -implicitDefEqProofs only [W2, ↓D2, ↓DC, QX, *, enc_Rule, hx, hlt, hw1, hr, decStep, keep_36_3, leaf_some, isNormal, Int.reduceToNat, id_eq, Int.reduceBEq, Int.reduceLE, Int.reduceLT, Nat.reduceAdd, Nat.reduceEqDiff, Nat.reduceLT, Nat.reduceLeDiff, Nat.reduceMul, Nat.reduceSub, reduceIte])))
  · simp -implicitDefEqProofs only [firstRegion]; rw [keep_36_3]; simp -implicitDefEqProofs only [W2, ↓D2, ↓DC, Int.reduceToNat, id_eq, Int.reduceBEq, Int.reduceLE, Int.reduceLT, Nat.reduceAdd, Nat.reduceEqDiff, Nat.reduceLT, Nat.reduceLeDiff, Nat.reduceMul, Nat.reduceSub, reduceIte]; first | done | rfl
  · rfl
noncomputable def ruleBy (a o : Int) (s : List Cond) (v : List Bool) (r : Rule) : Bool := isFor r a o && (isCond r.cond && r.cond.eval fun c => (c.op == 1) || leafVal s v c)
theorem r_impl_PolicyBy {fl f2 f3 : Bool} (k : Nat) (hk : 884940186000000 + 9 ≤ k) (p : Policy) (a o : Int) (s : List Cond) (v : List Bool) (hp : p.w ≤ 1099511627776) (hs0 : wl Cond.w s ≤ 1099511627776) :
    run E noExt k 44 [p.enc fl, .int .i64 a, .int .i64 o, .sl f2 (s.map (Cond.enc f2)), .sl f3 (v.map AV.bool)] [] = some (.bool (polBy (ruleBy a o s v) p.rules), []) := by
  unfold Policy.w at hp
  have hs1 := Nat.le_trans (wl_length _ p.rules) hp
  have hs : p.rules.length ≤ 140737488355328 := by omega
  have c1 : ∀ r ∈ p.rules, run E noExt (k - 1) 20 [r.enc fl, .int .i64 a, .int .i64 o] [] = some (.bool (isFor r a o), []) := fun r _ => r_impl_IsFor _ (by omega) r a o
  have c2 : ∀ r ∈ p.rules, run E noExt (k - 1) 56 [r.cond.enc fl, .sl f2 (s.map (Cond.enc f2)), .sl f3 (v.map AV.bool)] [] = some (.bool (isCond r.cond && r.cond.eval fun c => (c.op == 1) || leafVal s v c), []) :=
    fun r hr => r_impl_EvalBy _ (by omega) r.cond s v (by have h1 := wl_mem (w := Rule.w) hr; have h2 : r.cond.w = r.w := rfl; omega) hs0
  have hl := holdL_length (ruleBy a o s v) p.rules 0
  have c5 := r_impl_decided (fl := fl) (f2 := true) (k - 1) (by omega) p (holdL (ruleBy a o s v) 0 p.rules) hs (by omega) (fun z hz => by
    obtain ⟨j, h1, h2⟩ := holdL_mem _ _ _ _ hz
    exact ⟨j, by simpa using h1, h2⟩)
  obtain ⟨k, rfl⟩ : ∃ j, k = j + 1 := ⟨k - 1, by omega⟩
  rw [run_succ rfl rfl, body_eq (nt := 43) (fn := Go.Proofs.Tryz.f44) (by kernel_rfl) rfl rfl rfl rfl rfl rfl rfl rfl]
  simp -implicitDefEqProofs only [Nat.add_sub_cancel, enc_Policy] at c1 c2 c5
  simp -implicitDefEqProofs only [W3, ↓D3, ↓DA, ↓DP, ↓DC, Go.Proofs.Tryz.f44, enc_Policy, SH, Int.reduceToNat, id_eq, Int.reduceBEq, Int.reduceLE, Int.reduceLT, Nat.reduceAdd, Nat.reduceEqDiff, Nat.reduceLT, Nat.reduceLeDiff, Nat.reduceMul, Nat.reduceSub, reduceIte]
  rw [ev_loop]
  refine Eq.trans (loop_list (Q := fun g x => g = holdL (ruleBy a o s v) 0 p.rules → thenEnd E.P [] _ 0 (thenEv E _ _ _ _ _ (outOf 0 x)) = some (.bool (decided p.rules (holdL (ruleBy a o s v) 0 p.rules) == 1), [])) p.rules (holdStep (ruleBy a o s v)) id
    (fun i b => { sl := [(1, .int .i64 a), (2, .int .i64 o), (3, .sl f2 (s.map (Cond.enc f2))), (4, .sl f3 (v.map AV.bool)), (5, .ptr 0 0), (11, .own 0 false 3 1 (b.map (AV.int .i64))), (16, .sl fl (p.rules.map (Rule.enc fl))), (17, .int .i64 (p.rules.length : Nat)), (18, .int .i64 (i : Nat))],
                  bx := [(0, [.int .i64 p.version, .sl fl (p.rules.map (Rule.enc fl))])], nx := 2, nt := 43 }) (fun i b => b.length ≤ i) [] ?_ ?_ (by omega) (by simp) ?_ ?_) ?_
  · intro b _
    simp -implicitDefEqProofs only [W2, ↓D2, ↓DC, QX, leaf_some, isNormal, Int.reduceToNat, id_eq, Int.reduceBEq, Int.reduceLE, Int.reduceLT, Nat.reduceAdd, Nat.reduceEqDiff, Nat.reduceLT, Nat.reduceLeDiff, Nat.reduceMul, Nat.reduceSub, reduceIte]
    repeat' (split <;> (rename_i h; (try simp -implicitDefEqProofs only [Bool.not_eq_true', Bool.not_eq_false', decide_eq_true_eq, decide_eq_false_iff_not] at h); (try simp -implicitDefEqProofs only [W2, ↓D2, ↓DC, QX, *, leaf_some, isNormal, Int.reduceToNat, id_eq, Int.reduceBEq, Int.reduceLE, Int.reduceLT, Nat.reduceAdd, Nat.reduceEqDiff, Nat.reduceLT, Nat.reduceLeDiff, Nat.reduceMul, Nat.reduceSub, reduceIte])))
    intro hb
    subst hb
    simp -implicitDefEqProofs only [W3, ↓D3, ↓DA, ↓DP, ↓DC, c5, SH, Int.reduceToNat, id_eq, Int.reduceBEq, Int.reduceLE, Int.reduceLT, Nat.reduceAdd, Nat.reduceEqDiff, Nat.reduceLT, Nat.reduceLeDiff, Nat.reduceMul, Nat.reduceSub, reduceIte]
  · intro pre c r b hs' hb
    have hx := (at_row hs' hs).1; have hc := (at_row hs' hs).2.1; have hlt := (at_row hs' hs).2.2.1; have hw1 := (at_row hs' hs).2.2.2.1; have hl9 := (at_row hs' hs).2.2.2.2
    clear hs'
    have c3 := c1 c hc
    have c4 := c2 c hc
    simp -implicitDefEqProofs only [enc_Rule, enc_Cond] at c3 c4
    have hq : ruleBy a o s v c = (isFor c a o && (isCond c.cond && c.cond.eval fun c => (c.op == 1) || leafVal s v c)) := rfl
    generalize (isCond c.cond && c.cond.eval fun c => (c.op == 1) || leafVal s v c) = q at c4 hq
    have hm1 : (b.length + 1) * 8 ≤ 140737488355328 := by omega
    have hm2 : b.length + 1 ≤ 9223372036854775807 := by omega
    have hpl : plains [AV.int IntKind.i64 (pre.length : Int)] = true := rfl
    clear c1 c2 c5
    simp -implicitDefEqProofs only [W3, ↓D3, ↓DA, ↓DP, ↓DC, QX, enc_Rule, hx, hlt, hw1, c3, c4, hq, hm1, hm2, hpl, holdStep, List.map_append, SH, keep_44_3, leaf_some, isNormal, Int.reduceToNat, id_eq, Int.reduceBEq, Int.reduceLE, Int.reduceLT, Nat.reduceAdd, Nat.reduceEqDiff, Nat.reduceLT, Nat.reduceLeDiff, Nat.reduceMul, Nat.reduceSub, reduceIte]
    repeat' (split <;> (rename_i h; (try simp -implicitDefEqProofs only [Bool.not_eq_true', Bool.not_eq_false', decide_eq_true_eq, decide_eq_false_iff_not] at h); (try simp -implicitDefEqProofs only [W3, ↓D3, ↓DA, ↓DP, ↓DC, QX, *, enc_Rule, hx, hlt, hw1, c3, c4, hq, hm1, hm2, hpl, holdStep, List.map_append, SH, keep_44_3, leaf_some, isNormal, Int.reduceToNat, id_eq, Int.reduceBEq, Int.reduceLE, Int.reduceLT, Nat.reduceAdd, Nat.reduceEqDiff, Nat.reduceLT, Nat.reduceLeDiff, Nat.reduceMul, Nat.reduceSub, reduceIte])))
    all_goals first | omega | (simp; omega)
  · simp -implicitDefEqProofs only [firstRegion]; rw [keep_44_3]; simp -implicitDefEqProofs only [W2, ↓D2, ↓DC, Int.reduceToNat, id_eq, Int.reduceBEq, Int.reduceLE, Int.reduceLT, Nat.reduceAdd, Nat.reduceEqDiff, Nat.reduceLT, Nat.reduceLeDiff, Nat.reduceMul, Nat.reduceSub, reduceIte]; first | done | rfl
  · rw [holdLoop]; rfl
  · rw [decided_pol]
theorem or_small : ∀ a < 6, ∀ g < 2 ^ a, bits .or .i64 ((g : Nat) : Int) ((2 ^ a : Nat) : Int) = ((g + 2 ^ a : Nat) : Int) := by decide
theorem lend_encR {bx : Nat → Option (List AV)} {k id : Nat} {s : List Choice} : lend bx (k + 1) (encR id s) = .sl true (s.map (Choice.enc true)) := by
  unfold encR
  split
  · rename_i h
    subst h
    rfl
  · simp -implicitDefEqProofs only [lend, AV.mapO, shuts_Choice]
theorem len_encR2 {bx : Nat → Option (List AV)} {id : Nat} {s : List Choice} : lend bx 4 (encR id s) = .sl true (s.map (Choice.enc true)) := lend_encR
set_option maxHeartbeats 2000000 in
theorem r_impl_built {fl : Bool} (table : List Bool) (n : Nat) (hn : n ≤ 6) (ht : table.length = 2 ^ n) (root : Int) :
    ∀ (m a : Nat) (ha : a + m = n) (k : Nat) (hk : 281474976710656 + 10 + m ≤ k) (g : Nat) (hg : g < 2 ^ a) (ns : List Choice) (hns : ns.length + 2 ^ m ≤ 1000),
    run E noExt k 94 [.ptr 0 0, .int .i64 (a : Nat), .int .i64 (g : Nat), .sl fl (table.map AV.bool)] [[.int .i64 (n : Nat), encR 0 ns, .int .i64 root]] =
      some (.int .i64 (bld table m a g ns).1, [[.int .i64 (n : Nat), encR 0 (bld table m a g ns).2, .int .i64 root]])
  | 0, a, ha, k, hk, g, hg, ns, hns => by
    obtain rfl : a = n := by omega
    have hgl : g < table.length := by rw [ht]; simpa using hg
    have hx : table[g]? = some (table.getD g false) := by rw [List.getD_eq_getElem?_getD, List.getElem?_eq_getElem hgl]; rfl
    have hlt : ((g : Nat) : Int) < ((table.length : Nat) : Int) := by omega
    obtain ⟨k, rfl⟩ : ∃ j, k = j + 1 := ⟨k - 1, by omega⟩
    rw [run_succ rfl rfl, body_eq (nt := 72) (fn := Go.Proofs.Tryz.f94) (by kernel_rfl) rfl rfl rfl rfl rfl rfl rfl rfl]
    simp -implicitDefEqProofs only [bld]
    generalize table.getD g false = v at hx
    cases v
    all_goals
      simp -implicitDefEqProofs only [W3, ↓D3, ↓DA, ↓DP, ↓DC, Go.Proofs.Tryz.f94, hx, hlt, rows_encR, boxes_encR, len_rowsN, dedup_rowsN, nodup_rowsN, all_rowsN, any_encR, mapO_encR, look_nil, finJ_1, finJ_2, finJ_3, finJ_4, finJ_int, finJ_bool, finJ_str, finJ_nils, finJ_agg, finJ_own, finJ_sl, finJ_tup, look_cons, reduceCtorEq, evCall_mutOwn, evCall_mutAgg, evGive, giveRows, ioBoxes, mutArgs, roArgs, handArg, mutSlots, isPtrB, pairs, pairss, back_nil, back_cons, backO, backE, setBoxes, importB, mode_mut, mode_give, mode_io, mode_ro, List.zip_cons_cons, List.zip_nil_left, List.zip_nil_right, ite_self, ite_true, ite_false, finish_give, finish_mut1, finish_io0, finish_io2, finish_io3, finish_ioc, finI, finC, finW_ptr, ifEv_bool, if_false, if_true, SH, Int.reduceToNat, id_eq, Int.reduceBEq, Int.reduceLE, Int.reduceLT, Nat.reduceAdd, Nat.reduceEqDiff, Nat.reduceLT, Nat.reduceLeDiff, Nat.reduceMul, Nat.reduceSub, reduceIte]
  | m + 1, a, ha, k, hk, g, hg, ns, hns => by
    have hpm : 0 < 2 ^ m := Nat.pow_pos (by decide)
    have hps : 2 ^ (m + 1) = 2 * 2 ^ m := by rw [Nat.pow_succ]; omega
    have hpa : 2 ^ (a + 1) = 2 * 2 ^ a := by rw [Nat.pow_succ]; omega
    have hl1 := bld_len table m (a + 1) g ns
    have hl2 := bld_len table m (a + 1) (g + 2 ^ a) (bld table m (a + 1) g ns).2
    have c1 := r_impl_built (fl := fl) table n hn ht root m (a + 1) (by omega) (k - 1) (by omega) g (by omega) ns (by omega)
    have c2 := r_impl_built (fl := fl) table n hn ht root m (a + 1) (by omega) (k - 1) (by omega) (g + 2 ^ a) (by omega) (bld table m (a + 1) g ns).2 (by omega)
    have hsl : ∀ t, evBin2 E.P .shl t (.int .i64 1) (.int .i64 ((a : Nat) : Int)) = some (.int .i64 ((2 ^ a : Nat) : Int)) := fun t => by
      have h1 : (((a : Nat) : Int) < 0) = False := eq_false (by omega)
      simp -implicitDefEqProofs only [evBin2, evBin, evShift, h1, if_false, shl_small a (by omega)]
    have hor : ∀ t, evBin2 E.P .or t (.int .i64 ((g : Nat) : Int)) (.int .i64 ((2 ^ a : Nat) : Int)) = some (.int .i64 ((g + 2 ^ a : Nat) : Int)) := fun t => by
      simp -implicitDefEqProofs only [evBin2, evBin, evInt, or_small a (by omega) g hg, if_true]
    have c4 := fun (s : List Choice) hs x => r_slices_Index_Choice (fl := true) (gl := true) (k - 1) (by omega) s hs x
    obtain ⟨k, rfl⟩ : ∃ j, k = j + 1 := ⟨k - 1, by omega⟩
    rw [run_succ rfl rfl, body_eq (nt := 72) (fn := Go.Proofs.Tryz.f94) (by kernel_rfl) rfl rfl rfl rfl rfl rfl rfl rfl]
    simp -implicitDefEqProofs only [Nat.add_sub_cancel, enc_Choice] at c1 c2 c4
    simp -implicitDefEqProofs only [bld]
    generalize bld table m (a + 1) g ns = p1 at *
    obtain ⟨lo, ns1⟩ := p1
    simp only at *
    generalize bld table m (a + 1) (g + 2 ^ a) ns1 = p2 at *
    obtain ⟨hi, ns2⟩ := p2
    simp only at *
    have hne : ((((a : Nat) : Int)) == ((n : Nat) : Int)) = false := by simp; omega
    have hw1 : IntKind.i64.wrap ((a : Int) + 1) = ((a + 1 : Nat) : Int) := by rw [IntWalk.i64_in _ (by omega)]; omega
    generalize 2 ^ a = pa at *
    have hs : ns2.length ≤ 140737488355328 := by omega
    have c5 := c4 ns2 hs ⟨(a : Nat), lo, hi⟩
    clear c4
    have hm1 : (ns2.length + 1) * 24 ≤ 140737488355328 := by omega
    have hm2 : ns2.length + 1 ≤ 9223372036854775807 := by omega
    have hpl : plains [(AV.agg [.int .i64 (a : Nat), .int .i64 lo, .int .i64 hi])] = true := rfl
    have hw9 : IntKind.i64.wrap (((ns2.length + 1 : Nat) : Int) - 1) = ((ns2.length : Nat) : Int) := by rw [IntWalk.i64_in _ (by omega)]; omega
    have hw10 : IntKind.i64.wrap (((1 : Nat) : Int) - 1) = 0 := by decide
    have g1 := fun nid dst st => give_build (b := 0) (nid := nid) (dst := dst) (st := st) (id := 0) rfl rfl rfl rfl rfl rfl rfl rfl rfl (hΦ := c1)
    have g2 := fun id nid dst st => give_build (b := 0) (nid := nid) (dst := dst) (st := st) (id := id) rfl rfl rfl rfl rfl rfl rfl rfl rfl (hΦ := c2)
    have g2 := g2 144
    unfold bldJoin
    simp only at c5
    generalize indexBy (fun c => decide ((⟨(a : Nat), lo, hi⟩ : Choice) = c)) 0 ns2 = ix at *
    cases hbb : (lo == hi) with
    | true =>
      simp -implicitDefEqProofs only [W3, ↓D3, ↓DA, ↓DP, ↓DC, Go.Proofs.Tryz.f94, hbb, hne, hw1, hsl, hor, g1, g2, back_rowsN, rows_encR, boxes_encR, len_rowsN, dedup_rowsN, nodup_rowsN, all_rowsN, any_encR, mapO_encR, look_nil, finJ_1, finJ_2, finJ_3, finJ_4, finJ_int, finJ_bool, finJ_str, finJ_nils, finJ_agg, finJ_own, finJ_sl, finJ_tup, look_cons, reduceCtorEq, evCall_mutOwn, evCall_mutAgg, evGive, giveRows, ioBoxes, mutArgs, roArgs, handArg, mutSlots, isPtrB, pairs, pairss, back_nil, back_cons, backO, backE, setBoxes, importB, mode_mut, mode_give, mode_io, mode_ro, List.zip_cons_cons, List.zip_nil_left, List.zip_nil_right, ite_self, ite_true, ite_false, finish_give, finish_mut1, finish_io0, finish_io2, finish_io3, finish_ioc, finI, finC, finW_ptr, ifEv_bool, if_false, if_true, SH, Int.reduceToNat, id_eq, Int.reduceBEq, Int.reduceLE, Int.reduceLT, Nat.reduceAdd, Nat.reduceEqDiff, Nat.reduceLT, Nat.reduceLeDiff, Nat.reduceMul, Nat.reduceSub, reduceIte]
    | false =>
      rcases Classical.em (0 ≤ ix) with h | h
      · simp -implicitDefEqProofs only [W3, ↓D3, ↓DA, ↓DP, ↓DC, Go.Proofs.Tryz.f94, hbb, h, c5, hne, hw1, hsl, hor, g1, g2, len_encR2, plan_94_10, back_rowsN, rows_encR, boxes_encR, len_rowsN, dedup_rowsN, nodup_rowsN, all_rowsN, any_encR, mapO_encR, look_nil, finJ_1, finJ_2, finJ_3, finJ_4, finJ_int, finJ_bool, finJ_str, finJ_nils, finJ_agg, finJ_own, finJ_sl, finJ_tup, look_cons, reduceCtorEq, evCall_mutOwn, evCall_mutAgg, evGive, giveRows, ioBoxes, mutArgs, roArgs, handArg, mutSlots, isPtrB, pairs, pairss, back_nil, back_cons, backO, backE, setBoxes, importB, mode_mut, mode_give, mode_io, mode_ro, List.zip_cons_cons, List.zip_nil_left, List.zip_nil_right, ite_self, ite_true, ite_false, finish_give, finish_mut1, finish_io0, finish_io2, finish_io3, finish_ioc, finI, finC, finW_ptr, ifEv_bool, if_false, if_true, SH, Int.reduceToNat, id_eq, Int.reduceBEq, Int.reduceLE, Int.reduceLT, Nat.reduceAdd, Nat.reduceEqDiff, Nat.reduceLT, Nat.reduceLeDiff, Nat.reduceMul, Nat.reduceSub, reduceIte]
      · rcases Classical.em (ns2 = []) with h2 | h2
        · subst h2
          simp -implicitDefEqProofs only [List.map_nil] at c5
          simp -implicitDefEqProofs only [W3, ↓D3, ↓DA, ↓DP, ↓DC, Go.Proofs.Tryz.f94, hbb, h, c5, hne, hw1, hsl, hor, g1, g2, encR_nil, rowsL_nil, encR_one, enc_Choice, hw10, hpl, len_encR2, plan_94_10, plan_94_13, back_rowsN, rows_encR, boxes_encR, len_rowsN, dedup_rowsN, nodup_rowsN, all_rowsN, any_encR, mapO_encR, look_nil, finJ_1, finJ_2, finJ_3, finJ_4, finJ_int, finJ_bool, finJ_str, finJ_nils, finJ_agg, finJ_own, finJ_sl, finJ_tup, look_cons, reduceCtorEq, evCall_mutOwn, evCall_mutAgg, evGive, giveRows, ioBoxes, mutArgs, roArgs, handArg, mutSlots, isPtrB, pairs, pairss, back_nil, back_cons, backO, backE, setBoxes, importB, mode_mut, mode_give, mode_io, mode_ro, List.zip_cons_cons, List.zip_nil_left, List.zip_nil_right, ite_self, ite_true, ite_false, finish_give, finish_mut1, finish_io0, finish_io2, finish_io3, finish_ioc, finI, finC, finW_ptr, ifEv_bool, if_false, if_true, SH, Int.reduceToNat, id_eq, Int.reduceBEq, Int.reduceLE, Int.reduceLT, Nat.reduceAdd, Nat.reduceEqDiff, Nat.reduceLT, Nat.reduceLeDiff, Nat.reduceMul, Nat.reduceSub, reduceIte]
        · have e2 := fun id => encR_ne (id := id) h2
          have e3 := encR_ne (id := 0) (append_ne (s := ns2) (c := ⟨(a : Nat), lo, hi⟩))
          rw [List.map_append] at e3
          have hl : (ns2.map (Choice.enc true) ++ [AV.agg [.int .i64 (a : Nat), .int .i64 lo, .int .i64 hi]]).length = ns2.length + 1 := by simp
          simp -implicitDefEqProofs only [W3, ↓D3, ↓DA, ↓DP, ↓DC, Go.Proofs.Tryz.f94, hbb, h, c5, hne, hw1, hsl, hor, g1, g2, e2, e3, hl, enc_Choice, hs, hm1, hm2, hw9, hpl, shuts_Choice, plan_94_10, plan_94_13, back_rowsN, rows_encR, boxes_encR, len_rowsN, dedup_rowsN, nodup_rowsN, all_rowsN, any_encR, mapO_encR, look_nil, finJ_1, finJ_2, finJ_3, finJ_4, finJ_int, finJ_bool, finJ_str, finJ_nils, finJ_agg, finJ_own, finJ_sl, finJ_tup, look_cons, reduceCtorEq, evCall_mutOwn, evCall_mutAgg, evGive, giveRows, ioBoxes, mutArgs, roArgs, handArg, mutSlots, isPtrB, pairs, pairss, back_nil, back_cons, backO, backE, setBoxes, importB, mode_mut, mode_give, mode_io, mode_ro, List.zip_cons_cons, List.zip_nil_left, List.zip_nil_right, ite_self, ite_true, ite_false, finish_give, finish_mut1, finish_io0, finish_io2, finish_io3, finish_ioc, finI, finC, finW_ptr, ifEv_bool, if_false, if_true, SH, Int.reduceToNat, id_eq, Int.reduceBEq, Int.reduceLE, Int.reduceLT, Nat.reduceAdd, Nat.reduceEqDiff, Nat.reduceLT, Nat.reduceLeDiff, Nat.reduceMul, Nat.reduceSub, reduceIte]
end Go.Proofs.YtokjpncehggojaaGreat.Flat
