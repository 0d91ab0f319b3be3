/-
Diagrams that are right, and what they answer.
-/
import Derived.Test.YtigfcbcnfppmcaaGreatEqQ
import Derived.Test.YtigfcbcnfppmcaaGreatEqL
import Derived.Test.YtigfcbcnfppmcaaGreatEqYM
set_option linter.unusedVariables false
set_option linter.unusedSimpArgs false
set_option maxRecDepth 10000
namespace Go.Proofs.YtigfcbcnfppmcaaGreat.Flat
/-- Where a node may lead, behind earlier ones. -/
def okNext (earlier : List Choice) (x : Choice) (to : Int) : Bool := inR to (-2) ((earlier.length : Int) - 1) && (decide (to < 0) || decide (x.atom < (earlier.getD to.toNat default).atom))
noncomputable def okChoice (atoms : Int) (earlier : List Choice) (x : Choice) : Bool :=
  ((inR x.atom 0 (IntKind.i64.wrap (atoms - 1)) && !(x.low == x.high)) && (okNext earlier x x.low && okNext earlier x x.high)) && !(earlier.any fun y => decide (y = x))
noncomputable def okStep (atoms : Int) (nodes : List Choice) (i : Nat) (x : Choice) (_ : Unit) : Sum Bool Unit := if okChoice atoms (nodes.take i) x = true then .inr () else .inl false
noncomputable def isDiagram (d : Diagram) : Bool := loopL (okStep d.atoms d.nodes) (fun _ => inR d.atoms 0 6 && inR d.root (-2) ((d.nodes.length : Int) - 1)) 0 d.nodes ()
noncomputable def nextStep (earlier : List Choice) (x : Choice) (_ : Nat) (to : Int) (_ : Unit) : Sum Bool Unit := if okNext earlier x to = true then .inr () else .inl false
theorem r_impl_isChoice {fl f2 : Bool} (k : Nat) (hk : 281474976710656 + 4 ≤ k) (x : Choice) (atoms : Int) (s : List Choice) (hs : s.length ≤ 140737488355328) :
    run E noExt k 65 [x.enc fl, .int .i64 atoms, .sl f2 (s.map (Choice.enc f2))] [] = some (.bool (okChoice atoms s x), []) := by
  have c1 := r_slices_Contains_Choice (fl := f2) (gl := fl) (k - 1) (by omega) s hs x
  have hsw : (s.any fun y => decide (x = y)) = s.any fun y => decide (y = x) := by
    congr 1
    funext y
    rw [Bool.eq_iff_iff, decide_eq_true_iff, decide_eq_true_iff]
    exact eq_comm
  rw [hsw] at c1
  have c0 := r_impl_InRange (k - 1) (by omega)
  have hw : IntKind.i64.wrap ((s.length : Int) - 1) = (s.length : Int) - 1 := IntWalk.i64_in _ (by omega)
  obtain ⟨k, rfl⟩ : ∃ j, k = j + 1 := ⟨k - 1, by omega⟩
  rw [run_succ rfl rfl, body_eq (nt := 58) (fn := Go.Proofs.Tryz.f65) (by kernel_rfl) rfl rfl rfl rfl rfl rfl rfl rfl]
  simp -implicitDefEqProofs only [Nat.add_sub_cancel, enc_Choice] at c1 c0
  unfold okChoice
  simp -implicitDefEqProofs only [QS, QN, QG, QO, ZRS, ↓ZDS, ZRG, ↓ZDG, ZRO, ↓ZDO, Go.Proofs.Tryz.f65, enc_Choice, c0, c1, SO, SH, evAppend, rowOf, noref, isRef, isPtr, noPtr, isBad, AV.isUndef, plan_65_6, ifEv_bool, gate_bool, gateP_bool, gateQ_bool, pick_bool, SN, evCutRow, Int.reduceToNat, id_eq, Int.reduceBEq, Int.reduceLE, Int.reduceLT, SS, one_ne2, num_ne2, TIS, MDS, AV.cells, AV.isCell, Value.cells, Nat.reduceAdd, Nat.reduceEqDiff, Nat.reduceLT, Nat.reduceLeDiff, Nat.reduceMul, Nat.reduceSub, reduceIte]
  repeat' (split <;> (rename_i h; (try simp -implicitDefEqProofs only [Bool.not_eq_true', Bool.not_eq_false', decide_eq_true_eq, decide_eq_false_iff_not] at h); (try simp -implicitDefEqProofs only [QS, QN, QG, QO, ZRS, ↓ZDS, ZRG, ↓ZDG, ZRO, ↓ZDO, *, enc_Choice, c0, c1, SO, SH, evAppend, rowOf, noref, isRef, isPtr, noPtr, isBad, AV.isUndef, plan_65_6, ifEv_bool, gate_bool, gateP_bool, gateQ_bool, pick_bool, SN, evCutRow, Int.reduceToNat, id_eq, Int.reduceBEq, Int.reduceLE, Int.reduceLT, SS, one_ne2, num_ne2, TIS, MDS, AV.cells, AV.isCell, Value.cells, Nat.reduceAdd, Nat.reduceEqDiff, Nat.reduceLT, Nat.reduceLeDiff, Nat.reduceMul, Nat.reduceSub, reduceIte])))
  have he : (!(s.any fun y => decide (y = x))) = true := by simp -implicitDefEqProofs only [*, Bool.not_false]
  rw [ev_loop]
  refine Eq.trans (loop_list (Q := fun g x => thenEnd E.P [] _ 0 (thenEv E _ _ _ _ _ (outOf 0 x)) = some (.bool g, [])) [x.low, x.high] (nextStep s x) (fun _ => true)
    (fun i _ => { sl := [(2, .sl f2 (s.map (Choice.enc f2))), (3, .ptr 0 0), (31, .own 0 false 3 1 ([x.low, x.high].map (AV.int .i64))), (32, .int .i64 2), (33, .int .i64 (i : Nat))], bx := [(0, [.int .i64 x.atom, .int .i64 x.low, .int .i64 x.high])], nx := 2, nt := 58 })
    (fun _ _ => True) () ?_ ?_ (by simp; omega) trivial ?_) ?_
  · intro b _
    have n2 : ((2 : Nat) : Int) = 2 := rfl
    simp -implicitDefEqProofs only [QS, QN, QG, ZRS, ↓ZDS, ZRG, ↓ZDG, n2, leaf_some, isNormal, ifEv_bool, gate_bool, gateP_bool, gateQ_bool, pick_bool, SN, evCutRow, Int.reduceToNat, id_eq, Int.reduceBEq, Int.reduceLE, Int.reduceLT, SS, one_ne2, num_ne2, TIS, MDS, AV.cells, AV.isCell, Value.cells, Nat.reduceAdd, Nat.reduceEqDiff, Nat.reduceLT, Nat.reduceLeDiff, Nat.reduceMul, Nat.reduceSub, reduceIte]
    repeat' (split <;> (rename_i h; (try simp -implicitDefEqProofs only [Bool.not_eq_true', Bool.not_eq_false', decide_eq_true_eq, decide_eq_false_iff_not] at h); (try simp -implicitDefEqProofs only [QS, QN, QG, ZRS, ↓ZDS, ZRG, ↓ZDG, *, n2, leaf_some, isNormal, ifEv_bool, gate_bool, gateP_bool, gateQ_bool, pick_bool, SN, evCutRow, Int.reduceToNat, id_eq, Int.reduceBEq, Int.reduceLE, Int.reduceLT, SS, one_ne2, num_ne2, TIS, MDS, AV.cells, AV.isCell, Value.cells, Nat.reduceAdd, Nat.reduceEqDiff, Nat.reduceLT, Nat.reduceLeDiff, Nat.reduceMul, Nat.reduceSub, reduceIte])))
  · intro pre c r b hs' _
    have hr := at_row hs' (by simp)
    have hx := hr.1; have hlt := hr.2.2.1; have hw1 := hr.2.2.2.1
    simp -implicitDefEqProofs only [List.length_cons, List.length_nil, Nat.zero_add, Nat.reduceAdd] at hlt
    clear hr hs'
    generalize hy : [x.low, x.high] = ys at hx
    have hys : ys.length = 2 := by rw [← hy]; rfl
    have hlt2 : ((pre.length : Nat) : Int) < 2 := by simpa using hlt
    by_cases hc : inR c (-2) ((s.length : Int) - 1) = true
    · have hc2 : -2 ≤ c ∧ c ≤ (s.length : Int) - 1 := by simpa [inR] using hc
      by_cases hn : 0 ≤ c
      · have hsx : s[c.toNat]? = some (s.getD c.toNat default) := by
          rw [List.getD_eq_getElem?_getD, List.getElem?_eq_getElem (by omega)]; rfl
        have hneg : decide (c < 0) = false := by simp; omega
        have hle : decide ((s.getD c.toNat default).atom ≤ x.atom) = !decide (x.atom < (s.getD c.toNat default).atom) := by
          rw [Bool.eq_iff_iff]; simp
        simp -implicitDefEqProofs only [QS, QN, QG, QO, ZRS, ↓ZDS, ZRG, ↓ZDG, ZRO, ↓ZDO, enc_Choice, hx, hlt2, hys, hw1, hw, c0, hc, hn, hneg, hsx, hle, nextStep, okNext, SO, SH, evAppend, rowOf, noref, isRef, isPtr, noPtr, isBad, AV.isUndef, plan_65_6, keep_65_4, leaf_some, isNormal, ifEv_bool, gate_bool, gateP_bool, gateQ_bool, pick_bool, SN, evCutRow, Int.reduceToNat, id_eq, Int.reduceBEq, Int.reduceLE, Int.reduceLT, SS, one_ne2, num_ne2, TIS, MDS, AV.cells, AV.isCell, Value.cells, Nat.reduceAdd, Nat.reduceEqDiff, Nat.reduceLT, Nat.reduceLeDiff, Nat.reduceMul, Nat.reduceSub, reduceIte]
        repeat' (split <;> (rename_i h; (try simp -implicitDefEqProofs only [Bool.not_eq_true', Bool.not_eq_false', decide_eq_true_eq, decide_eq_false_iff_not] at h); (try simp -implicitDefEqProofs only [QS, QN, QG, QO, ZRS, ↓ZDS, ZRG, ↓ZDG, ZRO, ↓ZDO, *, enc_Choice, hx, hlt2, hys, hw1, hw, c0, hc, hn, hneg, hsx, hle, nextStep, okNext, SO, SH, evAppend, rowOf, noref, isRef, isPtr, noPtr, isBad, AV.isUndef, plan_65_6, keep_65_4, leaf_some, isNormal, ifEv_bool, gate_bool, gateP_bool, gateQ_bool, pick_bool, SN, evCutRow, Int.reduceToNat, id_eq, Int.reduceBEq, Int.reduceLE, Int.reduceLT, SS, one_ne2, num_ne2, TIS, MDS, AV.cells, AV.isCell, Value.cells, Nat.reduceAdd, Nat.reduceEqDiff, Nat.reduceLT, Nat.reduceLeDiff, Nat.reduceMul, Nat.reduceSub, reduceIte])))
      · have hneg : decide (c < 0) = true := by simp; omega
        simp -implicitDefEqProofs only [QS, QN, QG, QO, ZRS, ↓ZDS, ZRG, ↓ZDG, ZRO, ↓ZDO, enc_Choice, hx, hlt2, hys, hw1, hw, c0, hc, hn, hneg, nextStep, okNext, SO, SH, evAppend, rowOf, noref, isRef, isPtr, noPtr, isBad, AV.isUndef, plan_65_6, keep_65_4, leaf_some, isNormal, ifEv_bool, gate_bool, gateP_bool, gateQ_bool, pick_bool, SN, evCutRow, Int.reduceToNat, id_eq, Int.reduceBEq, Int.reduceLE, Int.reduceLT, SS, one_ne2, num_ne2, TIS, MDS, AV.cells, AV.isCell, Value.cells, Nat.reduceAdd, Nat.reduceEqDiff, Nat.reduceLT, Nat.reduceLeDiff, Nat.reduceMul, Nat.reduceSub, reduceIte]
        repeat' (split <;> (rename_i h; (try simp -implicitDefEqProofs only [Bool.not_eq_true', Bool.not_eq_false', decide_eq_true_eq, decide_eq_false_iff_not] at h); (try simp -implicitDefEqProofs only [QS, QN, QG, QO, ZRS, ↓ZDS, ZRG, ↓ZDG, ZRO, ↓ZDO, *, enc_Choice, hx, hlt2, hys, hw1, hw, c0, hc, hn, hneg, nextStep, okNext, SO, SH, evAppend, rowOf, noref, isRef, isPtr, noPtr, isBad, AV.isUndef, plan_65_6, keep_65_4, leaf_some, isNormal, ifEv_bool, gate_bool, gateP_bool, gateQ_bool, pick_bool, SN, evCutRow, Int.reduceToNat, id_eq, Int.reduceBEq, Int.reduceLE, Int.reduceLT, SS, one_ne2, num_ne2, TIS, MDS, AV.cells, AV.isCell, Value.cells, Nat.reduceAdd, Nat.reduceEqDiff, Nat.reduceLT, Nat.reduceLeDiff, Nat.reduceMul, Nat.reduceSub, reduceIte])))
    · have hc' : inR c (-2) ((s.length : Int) - 1) = false := by simpa using hc
      simp -implicitDefEqProofs only [QS, QN, QG, QO, ZRS, ↓ZDS, ZRG, ↓ZDG, ZRO, ↓ZDO, enc_Choice, hx, hlt2, hys, hw1, hw, c0, hc', nextStep, okNext, SO, SH, evAppend, rowOf, noref, isRef, isPtr, noPtr, isBad, AV.isUndef, plan_65_6, keep_65_4, leaf_some, isNormal, ifEv_bool, gate_bool, gateP_bool, gateQ_bool, pick_bool, SN, evCutRow, Int.reduceToNat, id_eq, Int.reduceBEq, Int.reduceLE, Int.reduceLT, SS, one_ne2, num_ne2, TIS, MDS, AV.cells, AV.isCell, Value.cells, Nat.reduceAdd, Nat.reduceEqDiff, Nat.reduceLT, Nat.reduceLeDiff, Nat.reduceMul, Nat.reduceSub, reduceIte]
      repeat' (split <;> (rename_i h; (try simp -implicitDefEqProofs only [Bool.not_eq_true', Bool.not_eq_false', decide_eq_true_eq, decide_eq_false_iff_not] at h); (try simp -implicitDefEqProofs only [QS, QN, QG, QO, ZRS, ↓ZDS, ZRG, ↓ZDG, ZRO, ↓ZDO, *, enc_Choice, hx, hlt2, hys, hw1, hw, c0, hc', nextStep, okNext, SO, SH, evAppend, rowOf, noref, isRef, isPtr, noPtr, isBad, AV.isUndef, plan_65_6, keep_65_4, leaf_some, isNormal, ifEv_bool, gate_bool, gateP_bool, gateQ_bool, pick_bool, SN, evCutRow, Int.reduceToNat, id_eq, Int.reduceBEq, Int.reduceLE, Int.reduceLT, SS, one_ne2, num_ne2, TIS, MDS, AV.cells, AV.isCell, Value.cells, Nat.reduceAdd, Nat.reduceEqDiff, Nat.reduceLT, Nat.reduceLeDiff, Nat.reduceMul, Nat.reduceSub, reduceIte])))
  · simp -implicitDefEqProofs only [firstRegion]; rw [keep_65_4]; simp -implicitDefEqProofs only [QS, QN, QG, ZRS, ↓ZDS, ZRG, ↓ZDG, SN, evCutRow, Int.reduceToNat, id_eq, Int.reduceBEq, Int.reduceLE, Int.reduceLT, SS, one_ne2, num_ne2, TIS, MDS, AV.cells, AV.isCell, Value.cells, Nat.reduceAdd, Nat.reduceEqDiff, Nat.reduceLT, Nat.reduceLeDiff, Nat.reduceMul, Nat.reduceSub, reduceIte]; first | done | rfl
  · simp -implicitDefEqProofs only [loopL, nextStep, he]
    cases okNext s x x.low <;> cases okNext s x x.high <;> simp [*]
theorem r_impl_IsDiagram {fl : Bool} (k : Nat) (hk : 281474976710656 + 5 ≤ k) (d : Diagram) (hd : d.w ≤ 1099511627776) : run E noExt k 26 [d.enc fl] [] = some (.bool (isDiagram d), []) := by
  unfold Diagram.w at hd
  have hs : d.nodes.length ≤ 140737488355328 := by omega
  have c0 := r_impl_InRange (k - 1) (by omega)
  have c1 : ∀ i x, i ≤ d.nodes.length → run E noExt (k - 1) 65 [Choice.enc true x, .int .i64 d.atoms, .sl fl ((d.nodes.take i).map (Choice.enc fl))] [] = some (.bool (okChoice d.atoms (d.nodes.take i) x), []) :=
    fun i x hi => r_impl_isChoice (fl := true) (k - 1) (by omega) x d.atoms (d.nodes.take i) (by rw [List.length_take]; omega)
  have hw : IntKind.i64.wrap ((d.nodes.length : Int) - 1) = (d.nodes.length : Int) - 1 := IntWalk.i64_in _ (by omega)
  obtain ⟨k, rfl⟩ : ∃ j, k = j + 1 := ⟨k - 1, by omega⟩
  rw [run_succ rfl rfl, body_eq (nt := 35) (fn := Go.Proofs.Tryz.f26) (by kernel_rfl) rfl rfl rfl rfl rfl rfl rfl rfl]
  simp -implicitDefEqProofs only [Nat.add_sub_cancel] at c1 c0
  simp -implicitDefEqProofs only [QS, QN, ZRS, ↓ZDS, Go.Proofs.Tryz.f26, enc_Diagram, SN, evCutRow, Int.reduceToNat, id_eq, Int.reduceBEq, Int.reduceLE, Int.reduceLT, SS, one_ne2, num_ne2, TIS, MDS, AV.cells, AV.isCell, Value.cells, Nat.reduceAdd, Nat.reduceEqDiff, Nat.reduceLT, Nat.reduceLeDiff, Nat.reduceMul, Nat.reduceSub, reduceIte]
  rw [ev_loop]
  refine Eq.trans (loop_list (Q := fun g x => thenEnd E.P [] _ 0 (thenEv E _ _ _ _ _ (outOf 0 x)) = some (.bool g, [])) (d.nodes) (okStep d.atoms d.nodes) (fun _ => inR d.atoms 0 6 && inR d.root (-2) ((d.nodes.length : Int) - 1))
    (fun i b => { sl := [(1, .ptr 0 0), (6, .sl fl (d.nodes.map (Choice.enc fl))), (7, .int .i64 (d.nodes.length : Nat)), (8, .int .i64 (i : Nat))], bx := [(0, [.int .i64 d.atoms, .sl fl (d.nodes.map (Choice.enc fl)), .int .i64 d.root])], nx := 1, nt := 35 }) (fun _ _ => True) (()) ?_ ?_ (by first | omega | (simp; omega)) (trivial) ?_) ?_
  · intro b _
    simp -implicitDefEqProofs only [QS, QN, QG, ZRS, ↓ZDS, ZRG, ↓ZDG, c0, hw, leaf_some, isNormal, ifEv_bool, gate_bool, gateP_bool, gateQ_bool, pick_bool, SN, evCutRow, Int.reduceToNat, id_eq, Int.reduceBEq, Int.reduceLE, Int.reduceLT, SS, one_ne2, num_ne2, TIS, MDS, AV.cells, AV.isCell, Value.cells, Nat.reduceAdd, Nat.reduceEqDiff, Nat.reduceLT, Nat.reduceLeDiff, Nat.reduceMul, Nat.reduceSub, reduceIte]
    repeat' (split <;> (rename_i h; (try simp -implicitDefEqProofs only [Bool.not_eq_true', Bool.not_eq_false', decide_eq_true_eq, decide_eq_false_iff_not] at h); (try simp -implicitDefEqProofs only [QS, QN, QG, ZRS, ↓ZDS, ZRG, ↓ZDG, *, c0, hw, leaf_some, isNormal, ifEv_bool, gate_bool, gateP_bool, gateQ_bool, pick_bool, SN, evCutRow, Int.reduceToNat, id_eq, Int.reduceBEq, Int.reduceLE, Int.reduceLT, SS, one_ne2, num_ne2, TIS, MDS, AV.cells, AV.isCell, Value.cells, Nat.reduceAdd, Nat.reduceEqDiff, Nat.reduceLT, Nat.reduceLeDiff, Nat.reduceMul, Nat.reduceSub, reduceIte])))
  · intro pre c r b hs' _
    have hx := (at_row hs' hs).1; have hc := (at_row hs' hs).2.1; have hlt := (at_row hs' hs).2.2.1; have hw1 := (at_row hs' hs).2.2.2.1; have hl9 := (at_row hs' hs).2.2.2.2
    clear hs'
    have c2 := c1 pre.length c (by omega)
    simp -implicitDefEqProofs only [enc_Choice, List.map_take] at c2
    have h0 : ((pre.length : Nat) : Int) ≤ ((d.nodes.length : Nat) : Int) := by omega
    simp -implicitDefEqProofs only [QS, QN, QG, ZRS, ↓ZDS, ZRG, ↓ZDG, enc_Choice, hx, hlt, hw1, h0, c2, okStep, List.map_take, plan_26_4, keep_26_2, leaf_some, isNormal, ifEv_bool, gate_bool, gateP_bool, gateQ_bool, pick_bool, SN, evCutRow, Int.reduceToNat, id_eq, Int.reduceBEq, Int.reduceLE, Int.reduceLT, SS, one_ne2, num_ne2, TIS, MDS, AV.cells, AV.isCell, Value.cells, Nat.reduceAdd, Nat.reduceEqDiff, Nat.reduceLT, Nat.reduceLeDiff, Nat.reduceMul, Nat.reduceSub, reduceIte]
    repeat' (split <;> (rename_i h; (try simp -implicitDefEqProofs only [Bool.not_eq_true', Bool.not_eq_false', decide_eq_true_eq, decide_eq_false_iff_not] at h); (try simp -implicitDefEqProofs only [QS, QN, QG, ZRS, ↓ZDS, ZRG, ↓ZDG, *, enc_Choice, hx, hlt, hw1, h0, c2, okStep, List.map_take, plan_26_4, keep_26_2, leaf_some, isNormal, ifEv_bool, gate_bool, gateP_bool, gateQ_bool, pick_bool, SN, evCutRow, Int.reduceToNat, id_eq, Int.reduceBEq, Int.reduceLE, Int.reduceLT, SS, one_ne2, num_ne2, TIS, MDS, AV.cells, AV.isCell, Value.cells, Nat.reduceAdd, Nat.reduceEqDiff, Nat.reduceLT, Nat.reduceLeDiff, Nat.reduceMul, Nat.reduceSub, reduceIte])))
    all_goals trace_state
  · simp -implicitDefEqProofs only [firstRegion]; rw [keep_26_2]; simp -implicitDefEqProofs only [QS, QN, QG, ZRS, ↓ZDS, ZRG, ↓ZDG, SN, evCutRow, Int.reduceToNat, id_eq, Int.reduceBEq, Int.reduceLE, Int.reduceLT, SS, one_ne2, num_ne2, TIS, MDS, AV.cells, AV.isCell, Value.cells, Nat.reduceAdd, Nat.reduceEqDiff, Nat.reduceLT, Nat.reduceLeDiff, Nat.reduceMul, Nat.reduceSub, reduceIte]; first | done | rfl
  · rfl
theorem okLoop (a : Int) (nodes : List Choice) (q : Bool) : ∀ (s : List Choice) (i : Nat), loopL (okStep a nodes) (fun _ => q) i s () = true → (∀ j x, s[j]? = some x → okChoice a (nodes.take (i + j)) x = true) ∧ q = true
  | [], i, h => ⟨fun j x hx => by simp at hx, h⟩
  | y :: s, i, h => by
    simp -implicitDefEqProofs only [loopL, okStep] at h
    cases hy : okChoice a (nodes.take i) y
    · rw [hy] at h; simp at h
    · rw [hy] at h
      simp -implicitDefEqProofs only [if_true] at h
      obtain ⟨h1, h2⟩ := okLoop a nodes q s (i + 1) h
      refine ⟨fun j x hx => ?_, h2⟩
      cases j with
      | zero =>
        obtain rfl : y = x := by simpa using hx
        exact hy
      | succ j =>
        have := h1 j x (by simpa using hx)
        rw [show i + 1 + j = i + (j + 1) by omega] at this
        exact this
theorem diagram_ok {d : Diagram} (h : isDiagram d = true) : (∀ j x, d.nodes[j]? = some x → okChoice d.atoms (d.nodes.take j) x = true) ∧ inR d.atoms 0 6 = true ∧ -2 ≤ d.root ∧ d.root < d.nodes.length := by
  obtain ⟨h1, h2⟩ := okLoop _ _ _ _ _ h
  simp -implicitDefEqProofs only [Bool.and_eq_true] at h2
  refine ⟨fun j x hx => by have := h1 j x hx; rwa [Nat.zero_add] at this, h2.1, ?_⟩
  have := h2.2
  simp -implicitDefEqProofs only [inR, Bool.and_eq_true, decide_eq_true_eq] at this
  omega
theorem choice_ok {a : Int} {s : List Choice} {x : Choice} (h : okChoice a s x = true) : 0 ≤ x.atom ∧ -2 ≤ x.low ∧ x.low < s.length ∧ -2 ≤ x.high ∧ x.high < s.length := by
  simp -implicitDefEqProofs only [okChoice, okNext, inR, Bool.and_eq_true, decide_eq_true_eq] at h
  omega
/-- Where a diagram goes from a node. -/
def goesTo (d : Diagram) (v : List Bool) (z : Int) : Int :=
  if (decide ((d.nodes.getD z.toNat default).atom < v.length) && v.getD (d.nodes.getD z.toNat default).atom.toNat false) = true then (d.nodes.getD z.toNat default).high else (d.nodes.getD z.toNat default).low
def ansF (d : Diagram) (v : List Bool) : Nat → Int → Int
  | 0, z => z
  | n + 1, z => if 0 ≤ z then ansF d v n (goesTo d v z) else z
noncomputable def answerOf (d : Diagram) (v : List Bool) : Bool := isDiagram d && (ansF d v (d.nodes.length + 1) d.root == -1)
theorem goes_lt {d : Diagram} (h : isDiagram d = true) (v : List Bool) {z : Int} (h0 : 0 ≤ z) (h1 : z < d.nodes.length) : goesTo d v z < z := by
  have hx : d.nodes[z.toNat]? = some (d.nodes.getD z.toNat default) := by
    rw [List.getD_eq_getElem?_getD, List.getElem?_eq_getElem (by omega)]; rfl
  have h2 := choice_ok ((diagram_ok h).1 _ _ hx)
  rw [List.length_take] at h2
  unfold goesTo
  split <;> omega
theorem ansF_pos {d : Diagram} {v : List Bool} {n : Nat} {z : Int} (h : 0 ≤ z) : ansF d v (n + 1) z = ansF d v n (goesTo d v z) := by simp [ansF, h]
theorem ansF_neg {d : Diagram} {v : List Bool} {n : Nat} {z : Int} (h : ¬ 0 ≤ z) : ansF d v n z = z := by
  cases n <;> simp [ansF, h]
theorem ansF_conv {d : Diagram} (h : isDiagram d = true) (v : List Bool) : ∀ (n : Nat) (z : Int), z < d.nodes.length → z.toNat + 1 ≤ n → ansF d v (n + 1) z = ansF d v n z
  | 0, z, h1, h2 => by omega
  | n + 1, z, h1, h2 => by
    by_cases h0 : 0 ≤ z
    · have hl := goes_lt h v h0 h1
      rw [ansF_pos h0, ansF_pos h0]
      by_cases hn : 0 ≤ goesTo d v z
      · exact ansF_conv h v n _ (by omega) (by omega)
      · rw [ansF_neg hn, ansF_neg hn]
    · rw [ansF_neg h0, ansF_neg h0]
def nextAns (d : Diagram) (v : List Bool) (z : Int) : Option Int := if 0 ≤ z then some (goesTo d v z) else none
theorem nextAns_ok {d : Diagram} (h : isDiagram d = true) (v : List Bool) (z z' : Int) (hz : z < d.nodes.length) (hn : nextAns d v z = some z') :
    z' < d.nodes.length ∧ (z' + 2).toNat < (z + 2).toNat ∧ ansF d v (d.nodes.length + 1) z' = ansF d v (d.nodes.length + 1) z := by
  unfold nextAns at hn
  split at hn
  · rename_i h0
    obtain rfl := Option.some.inj hn
    have hl := goes_lt h v h0 hz
    refine ⟨by omega, by omega, ?_⟩
    rw [← ansF_conv h v _ z hz (by omega)]
    rw [ansF_pos h0]
  · simp at hn
theorem r_impl_answer {fl f2 : Bool} (k : Nat) (hk : 290271069732864 + 1 ≤ k) (d : Diagram) (hd : isDiagram d = true) (hw : d.w ≤ 1099511627776) (v : List Bool) (hv : v.length ≤ 140737488355328) :
    run E noExt k 97 [d.enc fl, .sl f2 (v.map AV.bool)] [] = some (.bool (ansF d v (d.nodes.length + 1) d.root == -1), []) := by
  unfold Diagram.w at hw
  have hr := (diagram_ok hd).2.2
  obtain ⟨k, rfl⟩ : ∃ j, k = j + 1 := ⟨k - 1, by omega⟩
  rw [run_succ rfl rfl, body_eq (nt := 34) (fn := Go.Proofs.Tryz.f97) (by kernel_rfl) rfl rfl rfl rfl rfl rfl rfl rfl]
  simp -implicitDefEqProofs only [QS, QN, ZRS, ↓ZDS, Go.Proofs.Tryz.f97, enc_Diagram, SN, evCutRow, Int.reduceToNat, id_eq, Int.reduceBEq, Int.reduceLE, Int.reduceLT, SS, one_ne2, num_ne2, TIS, MDS, AV.cells, AV.isCell, Value.cells, Nat.reduceAdd, Nat.reduceEqDiff, Nat.reduceLT, Nat.reduceLeDiff, Nat.reduceMul, Nat.reduceSub, reduceIte]
  rw [ev_loop]
  refine loop_while (Q := fun g x => thenEnd E.P [] _ 0 (thenEv E _ _ _ _ _ (outOf 0 x)) = some (.bool (g == -1), [])) (nextAns d v) (ansF d v (d.nodes.length + 1))
    (fun z => { sl := [(1, .sl f2 (v.map AV.bool)), (2, .ptr 0 0), (5, .int .i64 z)], bx := [(0, [.int .i64 d.atoms, .sl fl (d.nodes.map (Choice.enc fl)), .int .i64 d.root])], nx := 1, nt := 34 })
    (fun z => z < d.nodes.length) (fun z => (z + 2).toNat) d.root ?_ (fun z z' hz hn => nextAns_ok hd v z z' hz hn) (by omega) hr.2 ?_
  · intro z hz
    by_cases h0 : 0 ≤ z
    · have hx : d.nodes[z.toNat]? = some (d.nodes.getD z.toNat default) := by
        rw [List.getD_eq_getElem?_getD, List.getElem?_eq_getElem (by omega)]; rfl
      have ha := (choice_ok ((diagram_ok hd).1 _ _ hx)).1
      have hg : goesTo d v z = if (decide ((d.nodes.getD z.toNat default).atom < v.length) && v.getD (d.nodes.getD z.toNat default).atom.toNat false) = true then (d.nodes.getD z.toNat default).high else (d.nodes.getD z.toNat default).low := rfl
      generalize d.nodes.getD z.toNat default = c at hx ha hg
      by_cases hb : c.atom < (v.length : Nat)
      · have hvx : v[c.atom.toNat]? = some (v.getD c.atom.toNat false) := by
          rw [List.getD_eq_getElem?_getD, List.getElem?_eq_getElem (by omega)]; rfl
        simp -implicitDefEqProofs only [QS, QN, QG, ZRS, ↓ZDS, ZRG, ↓ZDG, enc_Choice, h0, hx, ha, hb, hvx, hg, nextAns, keep_97_2, leaf_some, isNormal, ifEv_bool, gate_bool, gateP_bool, gateQ_bool, pick_bool, SN, evCutRow, Int.reduceToNat, id_eq, Int.reduceBEq, Int.reduceLE, Int.reduceLT, SS, one_ne2, num_ne2, TIS, MDS, AV.cells, AV.isCell, Value.cells, Nat.reduceAdd, Nat.reduceEqDiff, Nat.reduceLT, Nat.reduceLeDiff, Nat.reduceMul, Nat.reduceSub, reduceIte]
        repeat' (split <;> (rename_i h; (try simp -implicitDefEqProofs only [Bool.not_eq_true', Bool.not_eq_false', decide_eq_true_eq, decide_eq_false_iff_not] at h); (try simp -implicitDefEqProofs only [QS, QN, QG, ZRS, ↓ZDS, ZRG, ↓ZDG, *, enc_Choice, h0, hx, ha, hb, hvx, hg, nextAns, keep_97_2, leaf_some, isNormal, ifEv_bool, gate_bool, gateP_bool, gateQ_bool, pick_bool, SN, evCutRow, Int.reduceToNat, id_eq, Int.reduceBEq, Int.reduceLE, Int.reduceLT, SS, one_ne2, num_ne2, TIS, MDS, AV.cells, AV.isCell, Value.cells, Nat.reduceAdd, Nat.reduceEqDiff, Nat.reduceLT, Nat.reduceLeDiff, Nat.reduceMul, Nat.reduceSub, reduceIte])))
      ·
        simp -implicitDefEqProofs only [QS, QN, QG, ZRS, ↓ZDS, ZRG, ↓ZDG, enc_Choice, h0, hx, ha, hb, hg, nextAns, keep_97_2, leaf_some, isNormal, ifEv_bool, gate_bool, gateP_bool, gateQ_bool, pick_bool, SN, evCutRow, Int.reduceToNat, id_eq, Int.reduceBEq, Int.reduceLE, Int.reduceLT, SS, one_ne2, num_ne2, TIS, MDS, AV.cells, AV.isCell, Value.cells, Nat.reduceAdd, Nat.reduceEqDiff, Nat.reduceLT, Nat.reduceLeDiff, Nat.reduceMul, Nat.reduceSub, reduceIte]
        repeat' (split <;> (rename_i h; (try simp -implicitDefEqProofs only [Bool.not_eq_true', Bool.not_eq_false', decide_eq_true_eq, decide_eq_false_iff_not] at h); (try simp -implicitDefEqProofs only [QS, QN, QG, ZRS, ↓ZDS, ZRG, ↓ZDG, *, enc_Choice, h0, hx, ha, hb, hg, nextAns, keep_97_2, leaf_some, isNormal, ifEv_bool, gate_bool, gateP_bool, gateQ_bool, pick_bool, SN, evCutRow, Int.reduceToNat, id_eq, Int.reduceBEq, Int.reduceLE, Int.reduceLT, SS, one_ne2, num_ne2, TIS, MDS, AV.cells, AV.isCell, Value.cells, Nat.reduceAdd, Nat.reduceEqDiff, Nat.reduceLT, Nat.reduceLeDiff, Nat.reduceMul, Nat.reduceSub, reduceIte])))
    · have hf : ansF d v (d.nodes.length + 1) z = z := ansF_neg h0
      simp -implicitDefEqProofs only [QS, QN, QG, ZRS, ↓ZDS, ZRG, ↓ZDG, h0, hf, nextAns, leaf_some, isNormal, ifEv_bool, gate_bool, gateP_bool, gateQ_bool, pick_bool, SN, evCutRow, Int.reduceToNat, id_eq, Int.reduceBEq, Int.reduceLE, Int.reduceLT, SS, one_ne2, num_ne2, TIS, MDS, AV.cells, AV.isCell, Value.cells, Nat.reduceAdd, Nat.reduceEqDiff, Nat.reduceLT, Nat.reduceLeDiff, Nat.reduceMul, Nat.reduceSub, reduceIte]
      repeat' (split <;> (rename_i h; (try simp -implicitDefEqProofs only [Bool.not_eq_true', Bool.not_eq_false', decide_eq_true_eq, decide_eq_false_iff_not] at h); (try simp -implicitDefEqProofs only [QS, QN, QG, ZRS, ↓ZDS, ZRG, ↓ZDG, *, h0, hf, nextAns, leaf_some, isNormal, ifEv_bool, gate_bool, gateP_bool, gateQ_bool, pick_bool, SN, evCutRow, Int.reduceToNat, id_eq, Int.reduceBEq, Int.reduceLE, Int.reduceLT, SS, one_ne2, num_ne2, TIS, MDS, AV.cells, AV.isCell, Value.cells, Nat.reduceAdd, Nat.reduceEqDiff, Nat.reduceLT, Nat.reduceLeDiff, Nat.reduceMul, Nat.reduceSub, reduceIte])))
  · simp -implicitDefEqProofs only [firstRegion]; rw [keep_97_2]; simp -implicitDefEqProofs only [QS, QN, QG, ZRS, ↓ZDS, ZRG, ↓ZDG, SN, evCutRow, Int.reduceToNat, id_eq, Int.reduceBEq, Int.reduceLE, Int.reduceLT, SS, one_ne2, num_ne2, TIS, MDS, AV.cells, AV.isCell, Value.cells, Nat.reduceAdd, Nat.reduceEqDiff, Nat.reduceLT, Nat.reduceLeDiff, Nat.reduceMul, Nat.reduceSub, reduceIte]; first | done | rfl
theorem r_impl_AnswerOf {fl f2 : Bool} (k : Nat) (hk : 290271069732864 + 6 ≤ k) (d : Diagram) (hw : d.w ≤ 1099511627776) (v : List Bool) (hv : v.length ≤ 140737488355328) :
    run E noExt k 64 [d.enc fl, .sl f2 (v.map AV.bool)] [] = some (.bool (answerOf d v), []) := by
  have c1 := r_impl_IsDiagram (fl := fl) (k - 1) (by omega) d hw
  have c2 := fun h => r_impl_answer (fl := fl) (f2 := f2) (k - 1) (by omega) d h hw v hv
  obtain ⟨k, rfl⟩ : ∃ j, k = j + 1 := ⟨k - 1, by omega⟩
  rw [run_succ rfl rfl, body_eq (nt := 12) (fn := Go.Proofs.Tryz.f64) (by kernel_rfl) rfl rfl rfl rfl rfl rfl rfl rfl]
  simp -implicitDefEqProofs only [Nat.add_sub_cancel, enc_Diagram] at c1 c2
  unfold answerOf
  cases h : isDiagram d
  · simp -implicitDefEqProofs only [h] at c1
    simp -implicitDefEqProofs only [QS, QN, ZRS, ↓ZDS, Go.Proofs.Tryz.f64, enc_Diagram, c1, ifEv_bool, gate_bool, gateP_bool, gateQ_bool, pick_bool, SN, evCutRow, Int.reduceToNat, id_eq, Int.reduceBEq, Int.reduceLE, Int.reduceLT, SS, one_ne2, num_ne2, TIS, MDS, AV.cells, AV.isCell, Value.cells, Nat.reduceAdd, Nat.reduceEqDiff, Nat.reduceLT, Nat.reduceLeDiff, Nat.reduceMul, Nat.reduceSub, reduceIte]
    repeat' (split <;> (rename_i h; (try simp -implicitDefEqProofs only [Bool.not_eq_true', Bool.not_eq_false', decide_eq_true_eq, decide_eq_false_iff_not] at h); (try simp -implicitDefEqProofs only [QS, QN, ZRS, ↓ZDS, *, enc_Diagram, c1, ifEv_bool, gate_bool, gateP_bool, gateQ_bool, pick_bool, SN, evCutRow, Int.reduceToNat, id_eq, Int.reduceBEq, Int.reduceLE, Int.reduceLT, SS, one_ne2, num_ne2, TIS, MDS, AV.cells, AV.isCell, Value.cells, Nat.reduceAdd, Nat.reduceEqDiff, Nat.reduceLT, Nat.reduceLeDiff, Nat.reduceMul, Nat.reduceSub, reduceIte])))
  · have c3 := c2 h
    simp -implicitDefEqProofs only [h] at c1
    simp -implicitDefEqProofs only [QS, QN, ZRS, ↓ZDS, Go.Proofs.Tryz.f64, enc_Diagram, c1, c3, ifEv_bool, gate_bool, gateP_bool, gateQ_bool, pick_bool, SN, evCutRow, Int.reduceToNat, id_eq, Int.reduceBEq, Int.reduceLE, Int.reduceLT, SS, one_ne2, num_ne2, TIS, MDS, AV.cells, AV.isCell, Value.cells, Nat.reduceAdd, Nat.reduceEqDiff, Nat.reduceLT, Nat.reduceLeDiff, Nat.reduceMul, Nat.reduceSub, reduceIte]
    repeat' (split <;> (rename_i h; (try simp -implicitDefEqProofs only [Bool.not_eq_true', Bool.not_eq_false', decide_eq_true_eq, decide_eq_false_iff_not] at h); (try simp -implicitDefEqProofs only [QS, QN, ZRS, ↓ZDS, *, enc_Diagram, c1, c3, ifEv_bool, gate_bool, gateP_bool, gateQ_bool, pick_bool, SN, evCutRow, Int.reduceToNat, id_eq, Int.reduceBEq, Int.reduceLE, Int.reduceLT, SS, one_ne2, num_ne2, TIS, MDS, AV.cells, AV.isCell, Value.cells, Nat.reduceAdd, Nat.reduceEqDiff, Nat.reduceLT, Nat.reduceLeDiff, Nat.reduceMul, Nat.reduceSub, reduceIte])))
end Go.Proofs.YtigfcbcnfppmcaaGreat.Flat
set_option linter.unusedVariables false
set_option linter.unusedSimpArgs false
set_option maxRecDepth 10000
namespace Go.Proofs.YtigfcbcnfppmcaaGreat.Flat
def valsOf (n i : Nat) : List Bool := (List.range n).map fun k => decide (i / 2 ^ k % 2 = 1)
theorem valsOf_succ (n i : Nat) : valsOf (n + 1) i = valsOf n i ++ [decide (i / 2 ^ n % 2 = 1)] := by simp [valsOf, List.range_succ]
theorem valsOf_len (n i : Nat) : (valsOf n i).length = n := by simp [valsOf]
theorem shr_small : ∀ i < 64, ∀ k < 6, ((i : Nat) : Int).fdiv (2 ^ (min ((k : Nat) : Int).toNat IntKind.i64.bits)) = ((i / 2 ^ k : Nat) : Int) := by decide
theorem and_small : ∀ i < 64, bits .and .i64 ((i : Nat) : Int) 1 = ((i % 2 : Nat) : Int) := by decide
theorem one_small : ∀ i < 64, (((i % 2 : Nat) : Int) == 1) = decide (i % 2 = 1) := by decide
theorem shl_small : ∀ k < 7, IntKind.i64.wrap (1 * 2 ^ (min ((k : Nat) : Int).toNat IntKind.i64.bits)) = ((2 ^ k : Nat) : Int) := by decide
theorem r_impl_valuesOf (k : Nat) (hk : 281474976710656 + 2 ≤ k) (n i : Nat) (hn : n ≤ 6) (hi : i < 64) : run E noExt k 61 [.int .i64 (n : Nat), .int .i64 (i : Nat)] [] = some (.own 0 false 4 1 ((valsOf n i).map AV.bool), []) := by
  obtain ⟨k, rfl⟩ : ∃ j, k = j + 1 := ⟨k - 1, by omega⟩
  rw [run_succ rfl rfl, body_eq (nt := 22) (fn := Go.Proofs.Tryz.f61) (by kernel_rfl) rfl rfl rfl rfl rfl rfl rfl rfl]
  simp -implicitDefEqProofs only [QS, QN, QO, ZRS, ↓ZDS, ZRO, ↓ZDO, Go.Proofs.Tryz.f61, SO, SH, evAppend, rowOf, noref, isRef, isPtr, noPtr, isBad, AV.isUndef, dedup, nodupB, idx, AV.rows, AV.rowss, AV.mapO, AV.mapOs, SN, evCutRow, Int.reduceToNat, id_eq, Int.reduceBEq, Int.reduceLE, Int.reduceLT, SS, one_ne2, num_ne2, TIS, MDS, AV.cells, AV.isCell, Value.cells, Nat.reduceAdd, Nat.reduceEqDiff, Nat.reduceLT, Nat.reduceLeDiff, Nat.reduceMul, Nat.reduceSub, reduceIte]
  rw [ev_loop]
  refine Eq.trans (loop_list (Q := fun (_ : Unit) z => thenEnd E.P [] _ 0 (thenEv E _ _ _ _ _ (outOf 0 z)) = some (.own 0 false 4 1 ((valsOf n i).map AV.bool), [])) (List.range n) (fun _ _ _ => .inr ()) id
    (fun j _ => { sl := [(1, .int .i64 (i : Nat)), (5, .own 0 false 4 1 ((valsOf j i).map AV.bool)), (8, .int .i64 (n : Nat)), (9, .int .i64 (j : Nat))], bx := [], nx := 1, nt := 22 })
    (fun _ _ => True) () ?_ ?_ (by simp; omega) trivial ?_) ?_
  · intro _ _
    simp -implicitDefEqProofs only [QS, QN, QG, QO, ZRS, ↓ZDS, ZRG, ↓ZDG, ZRO, ↓ZDO, List.length_range, rowss_bools, boxess_bools, mapOs_bools, SO, SH, evAppend, rowOf, noref, isRef, isPtr, noPtr, isBad, AV.isUndef, leaf_some, isNormal, ifEv_bool, gate_bool, gateP_bool, gateQ_bool, pick_bool, SN, evCutRow, Int.reduceToNat, id_eq, Int.reduceBEq, Int.reduceLE, Int.reduceLT, SS, one_ne2, num_ne2, TIS, MDS, AV.cells, AV.isCell, Value.cells, Nat.reduceAdd, Nat.reduceEqDiff, Nat.reduceLT, Nat.reduceLeDiff, Nat.reduceMul, Nat.reduceSub, reduceIte]
    repeat' (split <;> (rename_i h; (try simp -implicitDefEqProofs only [Bool.not_eq_true', Bool.not_eq_false', decide_eq_true_eq, decide_eq_false_iff_not] at h); (try simp -implicitDefEqProofs only [QS, QN, QG, QO, ZRS, ↓ZDS, ZRG, ↓ZDG, ZRO, ↓ZDO, *, List.length_range, rowss_bools, boxess_bools, mapOs_bools, SO, SH, evAppend, rowOf, noref, isRef, isPtr, noPtr, isBad, AV.isUndef, leaf_some, isNormal, ifEv_bool, gate_bool, gateP_bool, gateQ_bool, pick_bool, SN, evCutRow, Int.reduceToNat, id_eq, Int.reduceBEq, Int.reduceLE, Int.reduceLT, SS, one_ne2, num_ne2, TIS, MDS, AV.cells, AV.isCell, Value.cells, Nat.reduceAdd, Nat.reduceEqDiff, Nat.reduceLT, Nat.reduceLeDiff, Nat.reduceMul, Nat.reduceSub, reduceIte])))
  · intro pre x r' _ hs' _
    have hp : pre.length < n := by have := congrArg List.length hs'; simp at this; omega
    have h5 : ((pre.length : Int) < (n : Int)) = True := eq_true (by omega)
    have hng : (((pre.length : Nat) : Int) < 0) = False := eq_false (by omega)
    have hw1 : IntKind.i64.wrap ((pre.length : Int) + 1) = ((pre.length + 1 : Nat) : Int) := by rw [IntWalk.i64_in _ (by omega)]; omega
    clear hs'
    have hq := shr_small i hi pre.length (by omega)
    have hlt : i / 2 ^ pre.length < 64 := Nat.lt_of_le_of_lt (Nat.div_le_self _ _) hi
    have hr := and_small _ hlt
    have ho := one_small _ hlt
    have hv := valsOf_succ pre.length i
    have hl := valsOf_len pre.length i
    have hm1 : (valsOf pre.length i).length + 1 ≤ 140737488355328 := by omega
    have hm2 : (valsOf pre.length i).length + 1 ≤ 9223372036854775807 := by omega
    generalize hbb : decide (i / 2 ^ pre.length % 2 = 1) = bb at ho hv
    have hpl : plains [AV.bool bb] = true := rfl
    generalize ((i / 2 ^ pre.length : Nat) : Int) = qq at hq hr
    generalize ((i / 2 ^ pre.length % 2 : Nat) : Int) = rr at hr ho
    have hsh : ∀ t, evBin2 E.P .shr t (.int .i64 ((i : Nat) : Int)) (.int .i64 ((pre.length : Nat) : Int)) = some (.int .i64 qq) := fun t => by simp -implicitDefEqProofs only [evBin2, evBin, evShift, hng, if_false, hq]
    have han : ∀ t, evBin2 E.P .and t (.int .i64 qq) (.int .i64 1) = some (.int .i64 rr) := fun t => by simp [evBin2, evBin, evInt, hr]
    clear hq hr
    simp -implicitDefEqProofs only [QS, QN, QG, QO, ZRS, ↓ZDS, ZRG, ↓ZDG, ZRO, ↓ZDO, h5, hw1, hsh, han, ho, hv, hm1, hm2, hpl, Nat.mul_one, List.map_append, rowss_bools, boxess_bools, mapOs_bools, SO, SH, evAppend, rowOf, noref, isRef, isPtr, noPtr, isBad, AV.isUndef, keep_61_3, leaf_some, isNormal, ifEv_bool, gate_bool, gateP_bool, gateQ_bool, pick_bool, SN, evCutRow, Int.reduceToNat, id_eq, Int.reduceBEq, Int.reduceLE, Int.reduceLT, SS, one_ne2, num_ne2, TIS, MDS, AV.cells, AV.isCell, Value.cells, Nat.reduceAdd, Nat.reduceEqDiff, Nat.reduceLT, Nat.reduceLeDiff, Nat.reduceMul, Nat.reduceSub, reduceIte]
    repeat' (split <;> (rename_i h; (try simp -implicitDefEqProofs only [Bool.not_eq_true', Bool.not_eq_false', decide_eq_true_eq, decide_eq_false_iff_not] at h); (try simp -implicitDefEqProofs only [QS, QN, QG, QO, ZRS, ↓ZDS, ZRG, ↓ZDG, ZRO, ↓ZDO, *, h5, hw1, hsh, han, ho, hv, hm1, hm2, hpl, Nat.mul_one, List.map_append, rowss_bools, boxess_bools, mapOs_bools, SO, SH, evAppend, rowOf, noref, isRef, isPtr, noPtr, isBad, AV.isUndef, keep_61_3, leaf_some, isNormal, ifEv_bool, gate_bool, gateP_bool, gateQ_bool, pick_bool, SN, evCutRow, Int.reduceToNat, id_eq, Int.reduceBEq, Int.reduceLE, Int.reduceLT, SS, one_ne2, num_ne2, TIS, MDS, AV.cells, AV.isCell, Value.cells, Nat.reduceAdd, Nat.reduceEqDiff, Nat.reduceLT, Nat.reduceLeDiff, Nat.reduceMul, Nat.reduceSub, reduceIte])))
  · simp -implicitDefEqProofs only [firstRegion]
    rw [keep_61_3]
    have hu0 : valsOf 0 i = [] := rfl
    simp -implicitDefEqProofs only [QS, QN, QG, QO, ZRS, ↓ZDS, ZRG, ↓ZDG, ZRO, ↓ZDO, hu0, SN, evCutRow, Int.reduceToNat, id_eq, Int.reduceBEq, Int.reduceLE, Int.reduceLT, SO, SH, evAppend, rowOf, noref, isRef, isPtr, noPtr, isBad, AV.isUndef, SS, one_ne2, num_ne2, TIS, MDS, AV.cells, AV.isCell, Value.cells, Nat.reduceAdd, Nat.reduceEqDiff, Nat.reduceLT, Nat.reduceLeDiff, Nat.reduceMul, Nat.reduceSub, reduceIte]
  · rfl
theorem scals_bools2 (m : List Bool) : AV.scals (m.map AV.bool) = true := by
  induction m with
  | nil => rfl
  | cons b m ih => simpa [AV.scals, AV.scal] using ih
theorem plains_bools2 (m : List Bool) : plains (m.map AV.bool) = true := plains_map (fun _ => rfl) m
end Go.Proofs.YtigfcbcnfppmcaaGreat.Flat
