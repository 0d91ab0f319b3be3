/-
Diagrams that are right, and what they answer.
-/
import Derived.Test.YtclpcglblcmcoaaEqL
set_option linter.unusedVariables false
set_option linter.unusedSimpArgs false
set_option maxRecDepth 10000
namespace Go.Proofs.Ytclpcglblcmcoaa.Flat
def okNext (earlier : List Choice) (x : Choice) (to : Int) : Bool := inR to (-2) ((earlier.length : Int) - 1) && (decide (to < 0) || decide (x.atom < (earlier.getD to.toNat default).atom))
noncomputable def okChoice (atoms : Int) (earlier : List Choice) (x : Choice) : Bool :=
  ((inR x.atom 0 (IntKind.i64.wrap (atoms - 1)) && !(x.low == x.high)) && (okNext earlier x x.low && okNext earlier x x.high)) && !(earlier.any fun y => decide (y = x))
noncomputable def okStep (atoms : Int) (nodes : List Choice) (i : Nat) (x : Choice) (_ : Unit) : Sum Bool Unit := if okChoice atoms (nodes.take i) x = true then .inr () else .inl false
noncomputable def isDiagram (d : Diagram) : Bool := loopL (okStep d.atoms d.nodes) (fun _ => inR d.atoms 0 6 && inR d.root (-2) ((d.nodes.length : Int) - 1)) 0 d.nodes ()
theorem r_spec_l21Goes {fl : Bool} (k : Nat) (hk : 281474976710656 + 2 ≤ k) (d : Diagram) (pre r : List Choice) (x : Choice) (hd : d.nodes = pre ++ x :: r) (hs : d.nodes.length ≤ 140737488355328) (to : Int) :
    run E noExt k 27 [d.enc fl, .int .i64 (pre.length : Nat), .int .i64 to] [] = some (.bool (okNext pre x to), []) := by
  have hx := (at_row hd hs).1
  have hl := (at_row hd hs).2.2.2.2
  have hw : IntKind.i64.wrap ((pre.length : Int) - 1) = (pre.length : Int) - 1 := IntWalk.i64_in _ (by omega)
  have c0 := r_spec_l1In (k - 1) (by omega)
  have ht : ∀ j, j < pre.length → d.nodes[j]? = some (pre.getD j default) := by
    intro j hj
    rw [hd, List.getElem?_append_left hj, List.getD_eq_getElem?_getD, List.getElem?_eq_getElem hj]
    rfl
  clear hd
  obtain ⟨k, rfl⟩ : ∃ j, k = j + 1 := ⟨k - 1, by omega⟩
  rw [run_succ rfl rfl, body_eq (nt := 32) (fn := Go.Proofs.Try.f27) (by kernel_rfl) rfl rfl rfl rfl rfl rfl rfl rfl]
  simp -implicitDefEqProofs only [Nat.add_sub_cancel] at c0
  unfold okNext
  by_cases h : inR to 0 ((pre.length : Int) - 1) = true
  · have h1 : 0 ≤ to ∧ to ≤ (pre.length : Int) - 1 := by simpa [inR] using h
    have h2 := h1.1
    have h3 := ht to.toNat (by omega)
    have b1 : (to == -2) = false := by simp; omega
    have b2 : (to == -1) = false := by simp; omega
    have b3 : inR to (-2) ((pre.length : Int) - 1) = true := by simp [inR]; omega
    have b4 : decide (to < 0) = false := by simp; omega
    simp -implicitDefEqProofs only [W1, ↓D1, ↓DC, QX, Go.Proofs.Try.f27, enc_Diagram, enc_Choice, hx, hw, c0, h, h2, h3, b1, b2, b3, b4, plan_27_3, Int.reduceToNat, id_eq, Int.reduceBEq, Int.reduceLE, Int.reduceLT, Nat.reduceAdd, Nat.reduceEqDiff, Nat.reduceLT, Nat.reduceLeDiff, Nat.reduceMul, Nat.reduceSub, reduceIte]
    repeat' (split <;> (rename_i h; (try simp -implicitDefEqProofs only [Bool.not_eq_true', Bool.not_eq_false', decide_eq_true_eq, decide_eq_false_iff_not] at h); (try simp -implicitDefEqProofs only [W1, ↓D1, ↓DC, QX, *, enc_Diagram, enc_Choice, hx, hw, c0, h, h2, h3, b1, b2, b3, b4, plan_27_3, Int.reduceToNat, id_eq, Int.reduceBEq, Int.reduceLE, Int.reduceLT, Nat.reduceAdd, Nat.reduceEqDiff, Nat.reduceLT, Nat.reduceLeDiff, Nat.reduceMul, Nat.reduceSub, reduceIte])))
  · have h' : inR to 0 ((pre.length : Int) - 1) = false := by simpa using h
    by_cases e1 : to = -2
    · have b1 : (to == -2) = true := by simp [e1]
      have b3 : inR to (-2) ((pre.length : Int) - 1) = true := by simp [inR, e1]; omega
      have b4 : decide (to < 0) = true := by simp [e1]
      simp -implicitDefEqProofs only [W1, ↓D1, ↓DC, QX, Go.Proofs.Try.f27, enc_Diagram, enc_Choice, b1, b3, b4, plan_27_3, Int.reduceToNat, id_eq, Int.reduceBEq, Int.reduceLE, Int.reduceLT, Nat.reduceAdd, Nat.reduceEqDiff, Nat.reduceLT, Nat.reduceLeDiff, Nat.reduceMul, Nat.reduceSub, reduceIte]
      repeat' (split <;> (rename_i h; (try simp -implicitDefEqProofs only [Bool.not_eq_true', Bool.not_eq_false', decide_eq_true_eq, decide_eq_false_iff_not] at h); (try simp -implicitDefEqProofs only [W1, ↓D1, ↓DC, QX, *, enc_Diagram, enc_Choice, b1, b3, b4, plan_27_3, Int.reduceToNat, id_eq, Int.reduceBEq, Int.reduceLE, Int.reduceLT, Nat.reduceAdd, Nat.reduceEqDiff, Nat.reduceLT, Nat.reduceLeDiff, Nat.reduceMul, Nat.reduceSub, reduceIte])))
    · have b1 : (to == -2) = false := by simp [e1]
      by_cases e2 : to = -1
      · have b2 : (to == -1) = true := by simp [e2]
        have b3 : inR to (-2) ((pre.length : Int) - 1) = true := by simp [inR, e2]; omega
        have b4 : decide (to < 0) = true := by simp [e2]
        simp -implicitDefEqProofs only [W1, ↓D1, ↓DC, QX, Go.Proofs.Try.f27, enc_Diagram, enc_Choice, b1, b2, b3, b4, plan_27_3, Int.reduceToNat, id_eq, Int.reduceBEq, Int.reduceLE, Int.reduceLT, Nat.reduceAdd, Nat.reduceEqDiff, Nat.reduceLT, Nat.reduceLeDiff, Nat.reduceMul, Nat.reduceSub, reduceIte]
        repeat' (split <;> (rename_i h; (try simp -implicitDefEqProofs only [Bool.not_eq_true', Bool.not_eq_false', decide_eq_true_eq, decide_eq_false_iff_not] at h); (try simp -implicitDefEqProofs only [W1, ↓D1, ↓DC, QX, *, enc_Diagram, enc_Choice, b1, b2, b3, b4, plan_27_3, Int.reduceToNat, id_eq, Int.reduceBEq, Int.reduceLE, Int.reduceLT, Nat.reduceAdd, Nat.reduceEqDiff, Nat.reduceLT, Nat.reduceLeDiff, Nat.reduceMul, Nat.reduceSub, reduceIte])))
      · have b2 : (to == -1) = false := by simp [e2]
        have b3 : inR to (-2) ((pre.length : Int) - 1) = false := by
          simp -implicitDefEqProofs only [inR, Bool.and_eq_false_iff, decide_eq_false_iff_not] at h' ⊢
          omega
        simp -implicitDefEqProofs only [W1, ↓D1, ↓DC, QX, Go.Proofs.Try.f27, enc_Diagram, enc_Choice, hw, c0, h', b1, b2, b3, plan_27_3, Int.reduceToNat, id_eq, Int.reduceBEq, Int.reduceLE, Int.reduceLT, Nat.reduceAdd, Nat.reduceEqDiff, Nat.reduceLT, Nat.reduceLeDiff, Nat.reduceMul, Nat.reduceSub, reduceIte]
        repeat' (split <;> (rename_i h; (try simp -implicitDefEqProofs only [Bool.not_eq_true', Bool.not_eq_false', decide_eq_true_eq, decide_eq_false_iff_not] at h); (try simp -implicitDefEqProofs only [W1, ↓D1, ↓DC, QX, *, enc_Diagram, enc_Choice, hw, c0, h', b1, b2, b3, plan_27_3, Int.reduceToNat, id_eq, Int.reduceBEq, Int.reduceLE, Int.reduceLT, Nat.reduceAdd, Nat.reduceEqDiff, Nat.reduceLT, Nat.reduceLeDiff, Nat.reduceMul, Nat.reduceSub, reduceIte])))
noncomputable def nextStep (earlier : List Choice) (x : Choice) (_ : Nat) (to : Int) (_ : Unit) : Sum Bool Unit := if okNext earlier x to = true then .inr () else .inl false
theorem r_impl_isChoice {fl f2 : Bool} (k : Nat) (hk : 281474976710656 + 4 ≤ k) (x : Choice) (atoms : Int) (s : List Choice) (hs : s.length ≤ 140737488355328) :
    run E noExt k 21 [x.enc fl, .int .i64 atoms, .sl f2 (s.map (Choice.enc f2))] [] = some (.bool (okChoice atoms s x), []) := by
  have c1 := r_slices_Contains_Choice (fl := f2) (gl := fl) (k - 1) (by omega) s hs x
  have hsw : (s.any fun y => decide (x = y)) = s.any fun y => decide (y = x) := by
    congr 1
    funext y
    rw [Bool.eq_iff_iff, decide_eq_true_iff, decide_eq_true_iff]
    exact eq_comm
  rw [hsw] at c1
  have c0 := r_impl_InRange (k - 1) (by omega)
  have hw : IntKind.i64.wrap ((s.length : Int) - 1) = (s.length : Int) - 1 := IntWalk.i64_in _ (by omega)
  obtain ⟨k, rfl⟩ : ∃ j, k = j + 1 := ⟨k - 1, by omega⟩
  rw [run_succ rfl rfl, body_eq (nt := 58) (fn := Go.Proofs.Try.f21) (by kernel_rfl) rfl rfl rfl rfl rfl rfl rfl rfl]
  simp -implicitDefEqProofs only [Nat.add_sub_cancel, enc_Choice] at c1 c0
  unfold okChoice
  simp -implicitDefEqProofs only [W3, ↓D3, ↓DA, ↓DP, ↓DC, QX, Go.Proofs.Try.f21, enc_Choice, c0, c1, SH, plan_21_6, Int.reduceToNat, id_eq, Int.reduceBEq, Int.reduceLE, Int.reduceLT, Nat.reduceAdd, Nat.reduceEqDiff, Nat.reduceLT, Nat.reduceLeDiff, Nat.reduceMul, Nat.reduceSub, reduceIte]
  repeat' (split <;> (rename_i h; (try simp -implicitDefEqProofs only [Bool.not_eq_true', Bool.not_eq_false', decide_eq_true_eq, decide_eq_false_iff_not] at h); (try simp -implicitDefEqProofs only [W3, ↓D3, ↓DA, ↓DP, ↓DC, QX, *, enc_Choice, c0, c1, SH, plan_21_6, Int.reduceToNat, id_eq, Int.reduceBEq, Int.reduceLE, Int.reduceLT, Nat.reduceAdd, Nat.reduceEqDiff, Nat.reduceLT, Nat.reduceLeDiff, Nat.reduceMul, Nat.reduceSub, reduceIte])))
  have he : (!(s.any fun y => decide (y = x))) = true := by simp -implicitDefEqProofs only [*, Bool.not_false]
  rw [ev_loop]
  refine Eq.trans (loop_list (Q := fun g x => thenEnd E.P [] _ 0 (thenEv E _ _ _ _ _ (outOf 0 x)) = some (.bool g, [])) [x.low, x.high] (nextStep s x) (fun _ => true)
    (fun i _ => { sl := [(2, .sl f2 (s.map (Choice.enc f2))), (3, .ptr 0 0), (31, .own 0 false 3 1 ([x.low, x.high].map (AV.int .i64))), (32, .int .i64 2), (33, .int .i64 (i : Nat))], bx := [(0, [.int .i64 x.atom, .int .i64 x.low, .int .i64 x.high])], nx := 2, nt := 58 })
    (fun _ _ => True) () ?_ ?_ (by simp; omega) trivial ?_) ?_
  · intro b _
    have n2 : ((2 : Nat) : Int) = 2 := rfl
    simp -implicitDefEqProofs only [W2, ↓D2, ↓DC, QX, n2, leaf_some, isNormal, Int.reduceToNat, id_eq, Int.reduceBEq, Int.reduceLE, Int.reduceLT, Nat.reduceAdd, Nat.reduceEqDiff, Nat.reduceLT, Nat.reduceLeDiff, Nat.reduceMul, Nat.reduceSub, reduceIte]
    repeat' (split <;> (rename_i h; (try simp -implicitDefEqProofs only [Bool.not_eq_true', Bool.not_eq_false', decide_eq_true_eq, decide_eq_false_iff_not] at h); (try simp -implicitDefEqProofs only [W2, ↓D2, ↓DC, QX, *, n2, leaf_some, isNormal, Int.reduceToNat, id_eq, Int.reduceBEq, Int.reduceLE, Int.reduceLT, Nat.reduceAdd, Nat.reduceEqDiff, Nat.reduceLT, Nat.reduceLeDiff, Nat.reduceMul, Nat.reduceSub, reduceIte])))
  · intro pre c r b hs' _
    have hr := at_row hs' (by simp)
    have hx := hr.1; have hlt := hr.2.2.1; have hw1 := hr.2.2.2.1
    simp -implicitDefEqProofs only [List.length_cons, List.length_nil, Nat.zero_add, Nat.reduceAdd] at hlt
    clear hr hs'
    generalize hy : [x.low, x.high] = ys at hx
    have hys : ys.length = 2 := by rw [← hy]; rfl
    have hlt2 : ((pre.length : Nat) : Int) < 2 := by simpa using hlt
    by_cases hc : inR c (-2) ((s.length : Int) - 1) = true
    · have hc2 : -2 ≤ c ∧ c ≤ (s.length : Int) - 1 := by simpa [inR] using hc
      by_cases hn : 0 ≤ c
      · have hsx : s[c.toNat]? = some (s.getD c.toNat default) := by
          rw [List.getD_eq_getElem?_getD, List.getElem?_eq_getElem (by omega)]; rfl
        have hneg : decide (c < 0) = false := by simp; omega
        have hle : decide ((s.getD c.toNat default).atom ≤ x.atom) = !decide (x.atom < (s.getD c.toNat default).atom) := by
          rw [Bool.eq_iff_iff]; simp
        simp -implicitDefEqProofs only [W3, ↓D3, ↓DA, ↓DP, ↓DC, QX, enc_Choice, hx, hlt2, hys, hw1, hw, c0, hc, hn, hneg, hsx, hle, nextStep, okNext, SH, plan_21_6, keep_21_4, leaf_some, isNormal, Int.reduceToNat, id_eq, Int.reduceBEq, Int.reduceLE, Int.reduceLT, Nat.reduceAdd, Nat.reduceEqDiff, Nat.reduceLT, Nat.reduceLeDiff, Nat.reduceMul, Nat.reduceSub, reduceIte]
        repeat' (split <;> (rename_i h; (try simp -implicitDefEqProofs only [Bool.not_eq_true', Bool.not_eq_false', decide_eq_true_eq, decide_eq_false_iff_not] at h); (try simp -implicitDefEqProofs only [W3, ↓D3, ↓DA, ↓DP, ↓DC, QX, *, enc_Choice, hx, hlt2, hys, hw1, hw, c0, hc, hn, hneg, hsx, hle, nextStep, okNext, SH, plan_21_6, keep_21_4, leaf_some, isNormal, Int.reduceToNat, id_eq, Int.reduceBEq, Int.reduceLE, Int.reduceLT, Nat.reduceAdd, Nat.reduceEqDiff, Nat.reduceLT, Nat.reduceLeDiff, Nat.reduceMul, Nat.reduceSub, reduceIte])))
      · have hneg : decide (c < 0) = true := by simp; omega
        simp -implicitDefEqProofs only [W3, ↓D3, ↓DA, ↓DP, ↓DC, QX, enc_Choice, hx, hlt2, hys, hw1, hw, c0, hc, hn, hneg, nextStep, okNext, SH, plan_21_6, keep_21_4, leaf_some, isNormal, Int.reduceToNat, id_eq, Int.reduceBEq, Int.reduceLE, Int.reduceLT, Nat.reduceAdd, Nat.reduceEqDiff, Nat.reduceLT, Nat.reduceLeDiff, Nat.reduceMul, Nat.reduceSub, reduceIte]
        repeat' (split <;> (rename_i h; (try simp -implicitDefEqProofs only [Bool.not_eq_true', Bool.not_eq_false', decide_eq_true_eq, decide_eq_false_iff_not] at h); (try simp -implicitDefEqProofs only [W3, ↓D3, ↓DA, ↓DP, ↓DC, QX, *, enc_Choice, hx, hlt2, hys, hw1, hw, c0, hc, hn, hneg, nextStep, okNext, SH, plan_21_6, keep_21_4, leaf_some, isNormal, Int.reduceToNat, id_eq, Int.reduceBEq, Int.reduceLE, Int.reduceLT, Nat.reduceAdd, Nat.reduceEqDiff, Nat.reduceLT, Nat.reduceLeDiff, Nat.reduceMul, Nat.reduceSub, reduceIte])))
    · have hc' : inR c (-2) ((s.length : Int) - 1) = false := by simpa using hc
      simp -implicitDefEqProofs only [W3, ↓D3, ↓DA, ↓DP, ↓DC, QX, enc_Choice, hx, hlt2, hys, hw1, hw, c0, hc', nextStep, okNext, SH, plan_21_6, keep_21_4, leaf_some, isNormal, Int.reduceToNat, id_eq, Int.reduceBEq, Int.reduceLE, Int.reduceLT, Nat.reduceAdd, Nat.reduceEqDiff, Nat.reduceLT, Nat.reduceLeDiff, Nat.reduceMul, Nat.reduceSub, reduceIte]
      repeat' (split <;> (rename_i h; (try simp -implicitDefEqProofs only [Bool.not_eq_true', Bool.not_eq_false', decide_eq_true_eq, decide_eq_false_iff_not] at h); (try simp -implicitDefEqProofs only [W3, ↓D3, ↓DA, ↓DP, ↓DC, QX, *, enc_Choice, hx, hlt2, hys, hw1, hw, c0, hc', nextStep, okNext, SH, plan_21_6, keep_21_4, leaf_some, isNormal, Int.reduceToNat, id_eq, Int.reduceBEq, Int.reduceLE, Int.reduceLT, Nat.reduceAdd, Nat.reduceEqDiff, Nat.reduceLT, Nat.reduceLeDiff, Nat.reduceMul, Nat.reduceSub, reduceIte])))
  · simp -implicitDefEqProofs only [firstRegion]; rw [keep_21_4]; simp -implicitDefEqProofs only [W2, ↓D2, ↓DC, Int.reduceToNat, id_eq, Int.reduceBEq, Int.reduceLE, Int.reduceLT, Nat.reduceAdd, Nat.reduceEqDiff, Nat.reduceLT, Nat.reduceLeDiff, Nat.reduceMul, Nat.reduceSub, reduceIte]; first | done | rfl
  · simp -implicitDefEqProofs only [loopL, nextStep, he]
    cases okNext s x x.low <;> cases okNext s x x.high <;> simp [*]
theorem r_impl_IsDiagram {fl : Bool} (k : Nat) (hk : 281474976710656 + 5 ≤ k) (d : Diagram) (hd : d.w ≤ 1099511627776) : run E noExt k 7 [d.enc fl] [] = some (.bool (isDiagram d), []) := by
  unfold Diagram.w at hd
  have hs : d.nodes.length ≤ 140737488355328 := by omega
  have c0 := r_impl_InRange (k - 1) (by omega)
  have c1 : ∀ i x, i ≤ d.nodes.length → run E noExt (k - 1) 21 [Choice.enc true x, .int .i64 d.atoms, .sl fl ((d.nodes.take i).map (Choice.enc fl))] [] = some (.bool (okChoice d.atoms (d.nodes.take i) x), []) :=
    fun i x hi => r_impl_isChoice (fl := true) (k - 1) (by omega) x d.atoms (d.nodes.take i) (by rw [List.length_take]; omega)
  have hw : IntKind.i64.wrap ((d.nodes.length : Int) - 1) = (d.nodes.length : Int) - 1 := IntWalk.i64_in _ (by omega)
  obtain ⟨k, rfl⟩ : ∃ j, k = j + 1 := ⟨k - 1, by omega⟩
  rw [run_succ rfl rfl, body_eq (nt := 35) (fn := Go.Proofs.Try.f7) (by kernel_rfl) rfl rfl rfl rfl rfl rfl rfl rfl]
  simp -implicitDefEqProofs only [Nat.add_sub_cancel] at c1 c0
  simp -implicitDefEqProofs only [W1, ↓D1, ↓DC, Go.Proofs.Try.f7, enc_Diagram, Int.reduceToNat, id_eq, Int.reduceBEq, Int.reduceLE, Int.reduceLT, Nat.reduceAdd, Nat.reduceEqDiff, Nat.reduceLT, Nat.reduceLeDiff, Nat.reduceMul, Nat.reduceSub, reduceIte]
  rw [ev_loop]
  refine Eq.trans (loop_list (Q := fun g x => thenEnd E.P [] _ 0 (thenEv E _ _ _ _ _ (outOf 0 x)) = some (.bool g, [])) (d.nodes) (okStep d.atoms d.nodes) (fun _ => inR d.atoms 0 6 && inR d.root (-2) ((d.nodes.length : Int) - 1))
    (fun i b => { sl := [(1, .ptr 0 0), (6, .sl fl (d.nodes.map (Choice.enc fl))), (7, .int .i64 (d.nodes.length : Nat)), (8, .int .i64 (i : Nat))], bx := [(0, [.int .i64 d.atoms, .sl fl (d.nodes.map (Choice.enc fl)), .int .i64 d.root])], nx := 1, nt := 35 }) (fun _ _ => True) (()) ?_ ?_ (by first | omega | (simp; omega)) (trivial) ?_) ?_
  · intro b _
    simp -implicitDefEqProofs only [W2, ↓D2, ↓DC, QX, c0, hw, leaf_some, isNormal, Int.reduceToNat, id_eq, Int.reduceBEq, Int.reduceLE, Int.reduceLT, Nat.reduceAdd, Nat.reduceEqDiff, Nat.reduceLT, Nat.reduceLeDiff, Nat.reduceMul, Nat.reduceSub, reduceIte]
    repeat' (split <;> (rename_i h; (try simp -implicitDefEqProofs only [Bool.not_eq_true', Bool.not_eq_false', decide_eq_true_eq, decide_eq_false_iff_not] at h); (try simp -implicitDefEqProofs only [W2, ↓D2, ↓DC, QX, *, c0, hw, leaf_some, isNormal, Int.reduceToNat, id_eq, Int.reduceBEq, Int.reduceLE, Int.reduceLT, Nat.reduceAdd, Nat.reduceEqDiff, Nat.reduceLT, Nat.reduceLeDiff, Nat.reduceMul, Nat.reduceSub, reduceIte])))
  · intro pre c r b hs' _
    have hx := (at_row hs' hs).1; have hc := (at_row hs' hs).2.1; have hlt := (at_row hs' hs).2.2.1; have hw1 := (at_row hs' hs).2.2.2.1; have hl9 := (at_row hs' hs).2.2.2.2
    clear hs'
    have c2 := c1 pre.length c (by omega)
    simp -implicitDefEqProofs only [enc_Choice, List.map_take] at c2
    have h0 : ((pre.length : Nat) : Int) ≤ ((d.nodes.length : Nat) : Int) := by omega
    simp -implicitDefEqProofs only [W2, ↓D2, ↓DC, QX, enc_Choice, hx, hlt, hw1, h0, c2, okStep, List.map_take, plan_7_4, keep_7_2, leaf_some, isNormal, Int.reduceToNat, id_eq, Int.reduceBEq, Int.reduceLE, Int.reduceLT, Nat.reduceAdd, Nat.reduceEqDiff, Nat.reduceLT, Nat.reduceLeDiff, Nat.reduceMul, Nat.reduceSub, reduceIte]
    repeat' (split <;> (rename_i h; (try simp -implicitDefEqProofs only [Bool.not_eq_true', Bool.not_eq_false', decide_eq_true_eq, decide_eq_false_iff_not] at h); (try simp -implicitDefEqProofs only [W2, ↓D2, ↓DC, QX, *, enc_Choice, hx, hlt, hw1, h0, c2, okStep, List.map_take, plan_7_4, keep_7_2, leaf_some, isNormal, Int.reduceToNat, id_eq, Int.reduceBEq, Int.reduceLE, Int.reduceLT, Nat.reduceAdd, Nat.reduceEqDiff, Nat.reduceLT, Nat.reduceLeDiff, Nat.reduceMul, Nat.reduceSub, reduceIte])))
    all_goals trace_state
  · simp -implicitDefEqProofs only [firstRegion]; rw [keep_7_2]; simp -implicitDefEqProofs only [W2, ↓D2, ↓DC, Int.reduceToNat, id_eq, Int.reduceBEq, Int.reduceLE, Int.reduceLT, Nat.reduceAdd, Nat.reduceEqDiff, Nat.reduceLT, Nat.reduceLeDiff, Nat.reduceMul, Nat.reduceSub, reduceIte]; first | done | rfl
  · rfl
noncomputable def dupStep (x : Choice) (_ : Nat) (y : Choice) (_ : Unit) : Sum Bool Unit := if decide (y = x) = true then .inl true else .inr ()
theorem dupLoop (x : Choice) : ∀ (s : List Choice) (i : Nat), loopL (dupStep x) (fun _ => false) i s () = s.any fun y => decide (y = x)
  | [], i => rfl
  | y :: s, i => by
    simp -implicitDefEqProofs only [loopL, dupStep, List.any_cons]
    cases decide (y = x)
    · simp -implicitDefEqProofs only [Bool.false_eq_true, if_false, Bool.false_or]; exact dupLoop x s _
    · simp
theorem r_spec_IsDiagram {fl : Bool} (k : Nat) (hk : 281474976710656 + 5 ≤ k) (d : Diagram) (hd : d.w ≤ 1099511627776) : run E noExt k 12 [d.enc fl] [] = some (.bool (isDiagram d), []) := by
  unfold Diagram.w at hd
  have hs : d.nodes.length ≤ 140737488355328 := by omega
  have c0 := r_spec_l1In (k - 1) (by omega)
  have c1 : ∀ pre r x, d.nodes = pre ++ x :: r → ∀ to, run E noExt (k - 1) 27 [d.enc fl, .int .i64 (pre.length : Nat), .int .i64 to] [] = some (.bool (okNext pre x to), []) :=
    fun pre r x h to => r_spec_l21Goes (k - 1) (by omega) d pre r x h hs to
  have hw : IntKind.i64.wrap ((d.nodes.length : Int) - 1) = (d.nodes.length : Int) - 1 := IntWalk.i64_in _ (by omega)
  obtain ⟨k, rfl⟩ : ∃ j, k = j + 1 := ⟨k - 1, by omega⟩
  rw [run_succ rfl rfl, body_eq (nt := 72) (fn := Go.Proofs.Try.f12) (by kernel_rfl) rfl rfl rfl rfl rfl rfl rfl rfl]
  simp -implicitDefEqProofs only [Nat.add_sub_cancel, enc_Diagram] at c1 c0
  simp -implicitDefEqProofs only [W1, ↓D1, ↓DC, Go.Proofs.Try.f12, enc_Diagram, Int.reduceToNat, id_eq, Int.reduceBEq, Int.reduceLE, Int.reduceLT, Nat.reduceAdd, Nat.reduceEqDiff, Nat.reduceLT, Nat.reduceLeDiff, Nat.reduceMul, Nat.reduceSub, reduceIte]
  rw [ev_loop]
  refine Eq.trans (loop_list (Q := fun g x => thenEnd E.P [] _ 0 (thenEv E _ _ _ _ _ (outOf 0 x)) = some (.bool g, [])) (d.nodes) (okStep d.atoms d.nodes) (fun _ => inR d.atoms 0 6 && inR d.root (-2) ((d.nodes.length : Int) - 1))
    (fun i b => { sl := [(1, .ptr 0 0), (3, .int .i64 (i : Nat))], bx := [(0, [.int .i64 d.atoms, .sl fl (d.nodes.map (Choice.enc fl)), .int .i64 d.root])], nx := 1, nt := 72 }) (fun _ _ => True) (()) ?_ ?_ (by first | omega | (simp; omega)) (trivial) ?_) ?_
  · intro b _
    simp -implicitDefEqProofs only [W2, ↓D2, ↓DC, QX, c0, hw, leaf_some, isNormal, Int.reduceToNat, id_eq, Int.reduceBEq, Int.reduceLE, Int.reduceLT, Nat.reduceAdd, Nat.reduceEqDiff, Nat.reduceLT, Nat.reduceLeDiff, Nat.reduceMul, Nat.reduceSub, reduceIte]
    repeat' (split <;> (rename_i h; (try simp -implicitDefEqProofs only [Bool.not_eq_true', Bool.not_eq_false', decide_eq_true_eq, decide_eq_false_iff_not] at h); (try simp -implicitDefEqProofs only [W2, ↓D2, ↓DC, QX, *, c0, hw, leaf_some, isNormal, Int.reduceToNat, id_eq, Int.reduceBEq, Int.reduceLE, Int.reduceLT, Nat.reduceAdd, Nat.reduceEqDiff, Nat.reduceLT, Nat.reduceLeDiff, Nat.reduceMul, Nat.reduceSub, reduceIte])))
  · intro pre c r b hs' _
    have hx := (at_row hs' hs).1; have hc := (at_row hs' hs).2.1; have hlt := (at_row hs' hs).2.2.1; have hw1 := (at_row hs' hs).2.2.2.1; have hl9 := (at_row hs' hs).2.2.2.2
    have c2 := c1 pre r c hs'
    have ht : d.nodes.take pre.length = pre := (take_row hs').1
    have hin : ∀ (j : Nat) y, pre[j]? = some y → d.nodes[j]? = some y := by
      intro j y hj
      rw [hs', List.getElem?_append_left (List.getElem?_eq_some_iff.1 hj).1]
      exact hj
    clear hs' c1
    have ho : okChoice d.atoms pre c = (((inR c.atom 0 (IntKind.i64.wrap (d.atoms - 1)) && !(c.low == c.high)) && (okNext pre c c.low && okNext pre c c.high)) && !(pre.any fun y => decide (y = c))) := rfl
    generalize hg : (pre.any fun y => decide (y = c)) = dup at ho
    cases dup
    ·
      simp -implicitDefEqProofs only [W2, ↓D2, ↓DC, QX, enc_Choice, hx, hlt, hw1, c0, c2, ht, ho, okStep, keep_12_2, leaf_some, isNormal, Int.reduceToNat, id_eq, Int.reduceBEq, Int.reduceLE, Int.reduceLT, Nat.reduceAdd, Nat.reduceEqDiff, Nat.reduceLT, Nat.reduceLeDiff, Nat.reduceMul, Nat.reduceSub, reduceIte]
      repeat' (split <;> (rename_i h; (try simp -implicitDefEqProofs only [Bool.not_eq_true', Bool.not_eq_false', decide_eq_true_eq, decide_eq_false_iff_not] at h); (try simp -implicitDefEqProofs only [W2, ↓D2, ↓DC, QX, *, enc_Choice, hx, hlt, hw1, c0, c2, ht, ho, okStep, keep_12_2, leaf_some, isNormal, Int.reduceToNat, id_eq, Int.reduceBEq, Int.reduceLE, Int.reduceLT, Nat.reduceAdd, Nat.reduceEqDiff, Nat.reduceLT, Nat.reduceLeDiff, Nat.reduceMul, Nat.reduceSub, reduceIte])))
      rw [ev_loop]
      refine loop_list (Q := fun g z => g = false → Leaf (thenEv E _ _ _ _ _ (outOf 1 (outOf 2 z))) _) pre (dupStep c) (fun _ => false)
        (fun i _ => { sl := [(1, .ptr 0 0), (3, .int .i64 (pre.length : Nat)), (4, .ptr 1 0), (5, .int .i64 (i : Nat))], bx := [(0, [.int .i64 d.atoms, .sl fl (d.nodes.map (Choice.enc fl)), .int .i64 d.root]), (1, [.int .i64 c.atom, .int .i64 c.low, .int .i64 c.high])], nx := 2, nt := 72 })
        (fun _ _ => True) () ?_ ?_ (by omega) trivial ?_ (by rw [dupLoop]; exact hg)
      · intro b _
        simp -implicitDefEqProofs only [W2, ↓D2, ↓DC, QX, hw1, keep_12_2, keep_12_8, leaf_some, isNormal, Int.reduceToNat, id_eq, Int.reduceBEq, Int.reduceLE, Int.reduceLT, Nat.reduceAdd, Nat.reduceEqDiff, Nat.reduceLT, Nat.reduceLeDiff, Nat.reduceMul, Nat.reduceSub, reduceIte]
        repeat' (split <;> (rename_i h; (try simp -implicitDefEqProofs only [Bool.not_eq_true', Bool.not_eq_false', decide_eq_true_eq, decide_eq_false_iff_not] at h); (try simp -implicitDefEqProofs only [W2, ↓D2, ↓DC, QX, *, hw1, keep_12_2, keep_12_8, leaf_some, isNormal, Int.reduceToNat, id_eq, Int.reduceBEq, Int.reduceLE, Int.reduceLT, Nat.reduceAdd, Nat.reduceEqDiff, Nat.reduceLT, Nat.reduceLeDiff, Nat.reduceMul, Nat.reduceSub, reduceIte])))
        all_goals first | done | trivial | (intro _; trivial) | (intro hq; exact absurd hq (by simp))
      · intro pre2 y r2 b hs2 _
        have hx2 := hin _ _ (at_row hs2 (by omega)).1; have hlt2 := (at_row hs2 (by omega)).2.2.1; have hw2 := (at_row hs2 (by omega)).2.2.2.1
        clear hs2
        have hq := eqb_Choice y c
        simp -implicitDefEqProofs only [W2, ↓D2, ↓DC, QX, enc_Choice, hx2, hlt2, hw1, hw2, hq, dupStep, plan_12_10, keep_12_2, keep_12_8, leaf_some, isNormal, Int.reduceToNat, id_eq, Int.reduceBEq, Int.reduceLE, Int.reduceLT, Nat.reduceAdd, Nat.reduceEqDiff, Nat.reduceLT, Nat.reduceLeDiff, Nat.reduceMul, Nat.reduceSub, reduceIte]
        repeat' (split <;> (rename_i h; (try simp -implicitDefEqProofs only [Bool.not_eq_true', Bool.not_eq_false', decide_eq_true_eq, decide_eq_false_iff_not] at h); (try simp -implicitDefEqProofs only [W2, ↓D2, ↓DC, QX, *, enc_Choice, hx2, hlt2, hw1, hw2, hq, dupStep, plan_12_10, keep_12_2, keep_12_8, leaf_some, isNormal, Int.reduceToNat, id_eq, Int.reduceBEq, Int.reduceLE, Int.reduceLT, Nat.reduceAdd, Nat.reduceEqDiff, Nat.reduceLT, Nat.reduceLeDiff, Nat.reduceMul, Nat.reduceSub, reduceIte])))
        all_goals first | done | trivial | (intro _; trivial) | (intro hq; exact absurd hq (by simp))
      · simp -implicitDefEqProofs only [firstRegion]; rw [keep_12_8]; simp -implicitDefEqProofs only [W2, ↓D2, ↓DC, Int.reduceToNat, id_eq, Int.reduceBEq, Int.reduceLE, Int.reduceLT, Nat.reduceAdd, Nat.reduceEqDiff, Nat.reduceLT, Nat.reduceLeDiff, Nat.reduceMul, Nat.reduceSub, reduceIte]; first | done | rfl
    ·
      simp -implicitDefEqProofs only [W2, ↓D2, ↓DC, QX, enc_Choice, hx, hlt, hw1, c0, c2, ht, ho, okStep, keep_12_2, leaf_some, isNormal, Int.reduceToNat, id_eq, Int.reduceBEq, Int.reduceLE, Int.reduceLT, Nat.reduceAdd, Nat.reduceEqDiff, Nat.reduceLT, Nat.reduceLeDiff, Nat.reduceMul, Nat.reduceSub, reduceIte]
      repeat' (split <;> (rename_i h; (try simp -implicitDefEqProofs only [Bool.not_eq_true', Bool.not_eq_false', decide_eq_true_eq, decide_eq_false_iff_not] at h); (try simp -implicitDefEqProofs only [W2, ↓D2, ↓DC, QX, *, enc_Choice, hx, hlt, hw1, c0, c2, ht, ho, okStep, keep_12_2, leaf_some, isNormal, Int.reduceToNat, id_eq, Int.reduceBEq, Int.reduceLE, Int.reduceLT, Nat.reduceAdd, Nat.reduceEqDiff, Nat.reduceLT, Nat.reduceLeDiff, Nat.reduceMul, Nat.reduceSub, reduceIte])))
      rw [ev_loop]
      refine loop_list (Q := fun g z => g = true → Leaf (thenEv E _ _ _ _ _ (outOf 1 (outOf 2 z))) _) pre (dupStep c) (fun _ => false)
        (fun i _ => { sl := [(1, .ptr 0 0), (3, .int .i64 (pre.length : Nat)), (4, .ptr 1 0), (5, .int .i64 (i : Nat))], bx := [(0, [.int .i64 d.atoms, .sl fl (d.nodes.map (Choice.enc fl)), .int .i64 d.root]), (1, [.int .i64 c.atom, .int .i64 c.low, .int .i64 c.high])], nx := 2, nt := 72 })
        (fun _ _ => True) () ?_ ?_ (by omega) trivial ?_ (by rw [dupLoop]; exact hg)
      · intro b _
        simp -implicitDefEqProofs only [W2, ↓D2, ↓DC, QX, hw1, keep_12_2, keep_12_8, leaf_some, isNormal, Int.reduceToNat, id_eq, Int.reduceBEq, Int.reduceLE, Int.reduceLT, Nat.reduceAdd, Nat.reduceEqDiff, Nat.reduceLT, Nat.reduceLeDiff, Nat.reduceMul, Nat.reduceSub, reduceIte]
        repeat' (split <;> (rename_i h; (try simp -implicitDefEqProofs only [Bool.not_eq_true', Bool.not_eq_false', decide_eq_true_eq, decide_eq_false_iff_not] at h); (try simp -implicitDefEqProofs only [W2, ↓D2, ↓DC, QX, *, hw1, keep_12_2, keep_12_8, leaf_some, isNormal, Int.reduceToNat, id_eq, Int.reduceBEq, Int.reduceLE, Int.reduceLT, Nat.reduceAdd, Nat.reduceEqDiff, Nat.reduceLT, Nat.reduceLeDiff, Nat.reduceMul, Nat.reduceSub, reduceIte])))
        all_goals first | done | trivial | (intro _; trivial) | (intro hq; exact absurd hq (by simp))
      · intro pre2 y r2 b hs2 _
        have hx2 := hin _ _ (at_row hs2 (by omega)).1; have hlt2 := (at_row hs2 (by omega)).2.2.1; have hw2 := (at_row hs2 (by omega)).2.2.2.1
        clear hs2
        have hq := eqb_Choice y c
        simp -implicitDefEqProofs only [W2, ↓D2, ↓DC, QX, enc_Choice, hx2, hlt2, hw1, hw2, hq, dupStep, plan_12_10, keep_12_2, keep_12_8, leaf_some, isNormal, Int.reduceToNat, id_eq, Int.reduceBEq, Int.reduceLE, Int.reduceLT, Nat.reduceAdd, Nat.reduceEqDiff, Nat.reduceLT, Nat.reduceLeDiff, Nat.reduceMul, Nat.reduceSub, reduceIte]
        repeat' (split <;> (rename_i h; (try simp -implicitDefEqProofs only [Bool.not_eq_true', Bool.not_eq_false', decide_eq_true_eq, decide_eq_false_iff_not] at h); (try simp -implicitDefEqProofs only [W2, ↓D2, ↓DC, QX, *, enc_Choice, hx2, hlt2, hw1, hw2, hq, dupStep, plan_12_10, keep_12_2, keep_12_8, leaf_some, isNormal, Int.reduceToNat, id_eq, Int.reduceBEq, Int.reduceLE, Int.reduceLT, Nat.reduceAdd, Nat.reduceEqDiff, Nat.reduceLT, Nat.reduceLeDiff, Nat.reduceMul, Nat.reduceSub, reduceIte])))
        all_goals first | done | trivial | (intro _; trivial) | (intro hq; exact absurd hq (by simp))
      · simp -implicitDefEqProofs only [firstRegion]; rw [keep_12_8]; simp -implicitDefEqProofs only [W2, ↓D2, ↓DC, Int.reduceToNat, id_eq, Int.reduceBEq, Int.reduceLE, Int.reduceLT, Nat.reduceAdd, Nat.reduceEqDiff, Nat.reduceLT, Nat.reduceLeDiff, Nat.reduceMul, Nat.reduceSub, reduceIte]; first | done | rfl
  · simp -implicitDefEqProofs only [firstRegion]; rw [keep_12_2]; simp -implicitDefEqProofs only [W2, ↓D2, ↓DC, Int.reduceToNat, id_eq, Int.reduceBEq, Int.reduceLE, Int.reduceLT, Nat.reduceAdd, Nat.reduceEqDiff, Nat.reduceLT, Nat.reduceLeDiff, Nat.reduceMul, Nat.reduceSub, reduceIte]; first | done | rfl
  · rfl
theorem okLoop (a : Int) (nodes : List Choice) (q : Bool) : ∀ (s : List Choice) (i : Nat), loopL (okStep a nodes) (fun _ => q) i s () = true → (∀ j x, s[j]? = some x → okChoice a (nodes.take (i + j)) x = true) ∧ q = true
  | [], i, h => ⟨fun j x hx => by simp at hx, h⟩
  | y :: s, i, h => by
    simp -implicitDefEqProofs only [loopL, okStep] at h
    cases hy : okChoice a (nodes.take i) y
    · rw [hy] at h; simp at h
    · rw [hy] at h
      simp -implicitDefEqProofs only [if_true] at h
      obtain ⟨h1, h2⟩ := okLoop a nodes q s (i + 1) h
      refine ⟨fun j x hx => ?_, h2⟩
      cases j with
      | zero =>
        obtain rfl : y = x := by simpa using hx
        exact hy
      | succ j =>
        have := h1 j x (by simpa using hx)
        rw [show i + 1 + j = i + (j + 1) by omega] at this
        exact this
theorem diagram_ok {d : Diagram} (h : isDiagram d = true) : (∀ j x, d.nodes[j]? = some x → okChoice d.atoms (d.nodes.take j) x = true) ∧ inR d.atoms 0 6 = true ∧ -2 ≤ d.root ∧ d.root < d.nodes.length := by
  obtain ⟨h1, h2⟩ := okLoop _ _ _ _ _ h
  simp -implicitDefEqProofs only [Bool.and_eq_true] at h2
  refine ⟨fun j x hx => by have := h1 j x hx; rwa [Nat.zero_add] at this, h2.1, ?_⟩
  have := h2.2
  simp -implicitDefEqProofs only [inR, Bool.and_eq_true, decide_eq_true_eq] at this
  omega
theorem choice_ok {a : Int} {s : List Choice} {x : Choice} (h : okChoice a s x = true) : 0 ≤ x.atom ∧ -2 ≤ x.low ∧ x.low < s.length ∧ -2 ≤ x.high ∧ x.high < s.length := by
  simp -implicitDefEqProofs only [okChoice, okNext, inR, Bool.and_eq_true, decide_eq_true_eq] at h
  omega
def goesTo (d : Diagram) (v : List Bool) (z : Int) : Int :=
  if (decide ((d.nodes.getD z.toNat default).atom < v.length) && v.getD (d.nodes.getD z.toNat default).atom.toNat false) = true then (d.nodes.getD z.toNat default).high else (d.nodes.getD z.toNat default).low
def ansF (d : Diagram) (v : List Bool) : Nat → Int → Int
  | 0, z => z
  | n + 1, z => if 0 ≤ z then ansF d v n (goesTo d v z) else z
noncomputable def answerOf (d : Diagram) (v : List Bool) : Bool := isDiagram d && (ansF d v (d.nodes.length + 1) d.root == -1)
theorem goes_lt {d : Diagram} (h : isDiagram d = true) (v : List Bool) {z : Int} (h0 : 0 ≤ z) (h1 : z < d.nodes.length) : goesTo d v z < z := by
  have hx : d.nodes[z.toNat]? = some (d.nodes.getD z.toNat default) := by
    rw [List.getD_eq_getElem?_getD, List.getElem?_eq_getElem (by omega)]; rfl
  have h2 := choice_ok ((diagram_ok h).1 _ _ hx)
  rw [List.length_take] at h2
  unfold goesTo
  split <;> omega
theorem ansF_pos {d : Diagram} {v : List Bool} {n : Nat} {z : Int} (h : 0 ≤ z) : ansF d v (n + 1) z = ansF d v n (goesTo d v z) := by simp [ansF, h]
theorem ansF_neg {d : Diagram} {v : List Bool} {n : Nat} {z : Int} (h : ¬ 0 ≤ z) : ansF d v n z = z := by
  cases n <;> simp [ansF, h]
theorem ansF_conv {d : Diagram} (h : isDiagram d = true) (v : List Bool) : ∀ (n : Nat) (z : Int), z < d.nodes.length → z.toNat + 1 ≤ n → ansF d v (n + 1) z = ansF d v n z
  | 0, z, h1, h2 => by omega
  | n + 1, z, h1, h2 => by
    by_cases h0 : 0 ≤ z
    · have hl := goes_lt h v h0 h1
      rw [ansF_pos h0, ansF_pos h0]
      by_cases hn : 0 ≤ goesTo d v z
      · exact ansF_conv h v n _ (by omega) (by omega)
      · rw [ansF_neg hn, ansF_neg hn]
    · rw [ansF_neg h0, ansF_neg h0]
def nextAns (d : Diagram) (v : List Bool) (z : Int) : Option Int := if 0 ≤ z then some (goesTo d v z) else none
theorem nextAns_ok {d : Diagram} (h : isDiagram d = true) (v : List Bool) (z z' : Int) (hz : z < d.nodes.length) (hn : nextAns d v z = some z') :
    z' < d.nodes.length ∧ (z' + 2).toNat < (z + 2).toNat ∧ ansF d v (d.nodes.length + 1) z' = ansF d v (d.nodes.length + 1) z := by
  unfold nextAns at hn
  split at hn
  · rename_i h0
    obtain rfl := Option.some.inj hn
    have hl := goes_lt h v h0 hz
    refine ⟨by omega, by omega, ?_⟩
    rw [← ansF_conv h v _ z hz (by omega)]
    rw [ansF_pos h0]
  · simp at hn
theorem r_impl_answer {fl f2 : Bool} (k : Nat) (hk : 290271069732864 + 1 ≤ k) (d : Diagram) (hd : isDiagram d = true) (hw : d.w ≤ 1099511627776) (v : List Bool) (hv : v.length ≤ 140737488355328) :
    run E noExt k 22 [d.enc fl, .sl f2 (v.map AV.bool)] [] = some (.bool (ansF d v (d.nodes.length + 1) d.root == -1), []) := by
  unfold Diagram.w at hw
  have hr := (diagram_ok hd).2.2
  obtain ⟨k, rfl⟩ : ∃ j, k = j + 1 := ⟨k - 1, by omega⟩
  rw [run_succ rfl rfl, body_eq (nt := 34) (fn := Go.Proofs.Try.f22) (by kernel_rfl) rfl rfl rfl rfl rfl rfl rfl rfl]
  simp -implicitDefEqProofs only [W1, ↓D1, ↓DC, Go.Proofs.Try.f22, enc_Diagram, Int.reduceToNat, id_eq, Int.reduceBEq, Int.reduceLE, Int.reduceLT, Nat.reduceAdd, Nat.reduceEqDiff, Nat.reduceLT, Nat.reduceLeDiff, Nat.reduceMul, Nat.reduceSub, reduceIte]
  rw [ev_loop]
  refine loop_while (Q := fun g x => thenEnd E.P [] _ 0 (thenEv E _ _ _ _ _ (outOf 0 x)) = some (.bool (g == -1), [])) (nextAns d v) (ansF d v (d.nodes.length + 1))
    (fun z => { sl := [(1, .sl f2 (v.map AV.bool)), (2, .ptr 0 0), (5, .int .i64 z)], bx := [(0, [.int .i64 d.atoms, .sl fl (d.nodes.map (Choice.enc fl)), .int .i64 d.root])], nx := 1, nt := 34 })
    (fun z => z < d.nodes.length) (fun z => (z + 2).toNat) d.root ?_ (fun z z' hz hn => nextAns_ok hd v z z' hz hn) (by omega) hr.2 ?_
  · intro z hz
    by_cases h0 : 0 ≤ z
    · have hx : d.nodes[z.toNat]? = some (d.nodes.getD z.toNat default) := by
        rw [List.getD_eq_getElem?_getD, List.getElem?_eq_getElem (by omega)]; rfl
      have ha := (choice_ok ((diagram_ok hd).1 _ _ hx)).1
      have hg : goesTo d v z = if (decide ((d.nodes.getD z.toNat default).atom < v.length) && v.getD (d.nodes.getD z.toNat default).atom.toNat false) = true then (d.nodes.getD z.toNat default).high else (d.nodes.getD z.toNat default).low := rfl
      generalize d.nodes.getD z.toNat default = c at hx ha hg
      by_cases hb : c.atom < (v.length : Nat)
      · have hvx : v[c.atom.toNat]? = some (v.getD c.atom.toNat false) := by
          rw [List.getD_eq_getElem?_getD, List.getElem?_eq_getElem (by omega)]; rfl
        simp -implicitDefEqProofs only [W2, ↓D2, ↓DC, QX, enc_Choice, h0, hx, ha, hb, hvx, hg, nextAns, keep_22_2, leaf_some, isNormal, Int.reduceToNat, id_eq, Int.reduceBEq, Int.reduceLE, Int.reduceLT, Nat.reduceAdd, Nat.reduceEqDiff, Nat.reduceLT, Nat.reduceLeDiff, Nat.reduceMul, Nat.reduceSub, reduceIte]
        repeat' (split <;> (rename_i h; (try simp -implicitDefEqProofs only [Bool.not_eq_true', Bool.not_eq_false', decide_eq_true_eq, decide_eq_false_iff_not] at h); (try simp -implicitDefEqProofs only [W2, ↓D2, ↓DC, QX, *, enc_Choice, h0, hx, ha, hb, hvx, hg, nextAns, keep_22_2, leaf_some, isNormal, Int.reduceToNat, id_eq, Int.reduceBEq, Int.reduceLE, Int.reduceLT, Nat.reduceAdd, Nat.reduceEqDiff, Nat.reduceLT, Nat.reduceLeDiff, Nat.reduceMul, Nat.reduceSub, reduceIte])))
      ·
        simp -implicitDefEqProofs only [W2, ↓D2, ↓DC, QX, enc_Choice, h0, hx, ha, hb, hg, nextAns, keep_22_2, leaf_some, isNormal, Int.reduceToNat, id_eq, Int.reduceBEq, Int.reduceLE, Int.reduceLT, Nat.reduceAdd, Nat.reduceEqDiff, Nat.reduceLT, Nat.reduceLeDiff, Nat.reduceMul, Nat.reduceSub, reduceIte]
        repeat' (split <;> (rename_i h; (try simp -implicitDefEqProofs only [Bool.not_eq_true', Bool.not_eq_false', decide_eq_true_eq, decide_eq_false_iff_not] at h); (try simp -implicitDefEqProofs only [W2, ↓D2, ↓DC, QX, *, enc_Choice, h0, hx, ha, hb, hg, nextAns, keep_22_2, leaf_some, isNormal, Int.reduceToNat, id_eq, Int.reduceBEq, Int.reduceLE, Int.reduceLT, Nat.reduceAdd, Nat.reduceEqDiff, Nat.reduceLT, Nat.reduceLeDiff, Nat.reduceMul, Nat.reduceSub, reduceIte])))
    · have hf : ansF d v (d.nodes.length + 1) z = z := ansF_neg h0
      simp -implicitDefEqProofs only [W2, ↓D2, ↓DC, QX, h0, hf, nextAns, leaf_some, isNormal, Int.reduceToNat, id_eq, Int.reduceBEq, Int.reduceLE, Int.reduceLT, Nat.reduceAdd, Nat.reduceEqDiff, Nat.reduceLT, Nat.reduceLeDiff, Nat.reduceMul, Nat.reduceSub, reduceIte]
      repeat' (split <;> (rename_i h; (try simp -implicitDefEqProofs only [Bool.not_eq_true', Bool.not_eq_false', decide_eq_true_eq, decide_eq_false_iff_not] at h); (try simp -implicitDefEqProofs only [W2, ↓D2, ↓DC, QX, *, h0, hf, nextAns, leaf_some, isNormal, Int.reduceToNat, id_eq, Int.reduceBEq, Int.reduceLE, Int.reduceLT, Nat.reduceAdd, Nat.reduceEqDiff, Nat.reduceLT, Nat.reduceLeDiff, Nat.reduceMul, Nat.reduceSub, reduceIte])))
  · simp -implicitDefEqProofs only [firstRegion]; rw [keep_22_2]; simp -implicitDefEqProofs only [W2, ↓D2, ↓DC, Int.reduceToNat, id_eq, Int.reduceBEq, Int.reduceLE, Int.reduceLT, Nat.reduceAdd, Nat.reduceEqDiff, Nat.reduceLT, Nat.reduceLeDiff, Nat.reduceMul, Nat.reduceSub, reduceIte]; first | done | rfl
theorem r_impl_AnswerOf {fl f2 : Bool} (k : Nat) (hk : 290271069732864 + 6 ≤ k) (d : Diagram) (hw : d.w ≤ 1099511627776) (v : List Bool) (hv : v.length ≤ 140737488355328) :
    run E noExt k 11 [d.enc fl, .sl f2 (v.map AV.bool)] [] = some (.bool (answerOf d v), []) := by
  have c1 := r_impl_IsDiagram (fl := fl) (k - 1) (by omega) d hw
  have c2 := fun h => r_impl_answer (fl := fl) (f2 := f2) (k - 1) (by omega) d h hw v hv
  obtain ⟨k, rfl⟩ : ∃ j, k = j + 1 := ⟨k - 1, by omega⟩
  rw [run_succ rfl rfl, body_eq (nt := 12) (fn := Go.Proofs.Try.f11) (by kernel_rfl) rfl rfl rfl rfl rfl rfl rfl rfl]
  simp -implicitDefEqProofs only [Nat.add_sub_cancel, enc_Diagram] at c1 c2
  unfold answerOf
  cases h : isDiagram d
  · simp -implicitDefEqProofs only [h] at c1
    simp -implicitDefEqProofs only [W1, ↓D1, ↓DC, QX, Go.Proofs.Try.f11, enc_Diagram, c1, Int.reduceToNat, id_eq, Int.reduceBEq, Int.reduceLE, Int.reduceLT, Nat.reduceAdd, Nat.reduceEqDiff, Nat.reduceLT, Nat.reduceLeDiff, Nat.reduceMul, Nat.reduceSub, reduceIte]
    repeat' (split <;> (rename_i h; (try simp -implicitDefEqProofs only [Bool.not_eq_true', Bool.not_eq_false', decide_eq_true_eq, decide_eq_false_iff_not] at h); (try simp -implicitDefEqProofs only [W1, ↓D1, ↓DC, QX, *, enc_Diagram, c1, Int.reduceToNat, id_eq, Int.reduceBEq, Int.reduceLE, Int.reduceLT, Nat.reduceAdd, Nat.reduceEqDiff, Nat.reduceLT, Nat.reduceLeDiff, Nat.reduceMul, Nat.reduceSub, reduceIte])))
  · have c3 := c2 h
    simp -implicitDefEqProofs only [h] at c1
    simp -implicitDefEqProofs only [W1, ↓D1, ↓DC, QX, Go.Proofs.Try.f11, enc_Diagram, c1, c3, Int.reduceToNat, id_eq, Int.reduceBEq, Int.reduceLE, Int.reduceLT, Nat.reduceAdd, Nat.reduceEqDiff, Nat.reduceLT, Nat.reduceLeDiff, Nat.reduceMul, Nat.reduceSub, reduceIte]
    repeat' (split <;> (rename_i h; (try simp -implicitDefEqProofs only [Bool.not_eq_true', Bool.not_eq_false', decide_eq_true_eq, decide_eq_false_iff_not] at h); (try simp -implicitDefEqProofs only [W1, ↓D1, ↓DC, QX, *, enc_Diagram, c1, c3, Int.reduceToNat, id_eq, Int.reduceBEq, Int.reduceLE, Int.reduceLT, Nat.reduceAdd, Nat.reduceEqDiff, Nat.reduceLT, Nat.reduceLeDiff, Nat.reduceMul, Nat.reduceSub, reduceIte])))
end Go.Proofs.Ytclpcglblcmcoaa.Flat
namespace Go.Proofs.Ytclpcglblcmcoaa.Flat.Roles
def isR (z : Int) : Bool := decide (0 ≤ z) && decide (z ≤ 5)
def Edge (l : List (Int × Int)) (a b : Nat) : Prop := ∃ x ∈ l, isR x.1 = true ∧ isR x.2 = true ∧ x.1.toNat = a ∧ x.2.toNat = b
inductive Reach (l : List (Int × Int)) : Nat → Nat → Prop
  | refl (a : Nat) : Reach l a a
  | step {a b c : Nat} (h : Reach l a b) (e : Edge l b c) : Reach l a c
theorem Reach.trans {l : List (Int × Int)} {a b c : Nat} (h : Reach l a b) (h' : Reach l b c) : Reach l a c := by
  induction h' with
  | refl => exact h
  | step _ e ih => exact .step ih e
def Has (m : List Bool) (i : Nat) : Prop := m[i]? = some true
def stepS (m : List Bool) (x : Int × Int) : List Bool := if (isR x.1 && isR x.2 && (m[x.1.toNat]?).getD false) = true then m.set x.2.toNat true else m
def pass (l : List (Int × Int)) (m : List Bool) : List Bool := l.foldl stepS m
def passes (l : List (Int × Int)) : Nat → List Bool → List Bool
  | 0, m => m
  | n + 1, m => passes l n (pass l m)
def marks (l : List (Int × Int)) (r : Nat) : List Bool := passes l 6 ((List.replicate 6 false).set r true)
def stepB (at' : Int) (p : List Bool × List Int) (x : Int × Int) : List Bool × List Int :=
  if (x.1 == at' && (isR x.2 && !((p.1[x.2.toNat]?).getD false))) = true then (p.1.set x.2.toNat true, p.2 ++ [x.2]) else p
def roundB (l : List (Int × Int)) (at' : Int) (p : List Bool × List Int) : List Bool × List Int := l.foldl (stepB at') p
def belowN (l : List (Int × Int)) : Nat → List Bool → List Int → List Bool
  | 0, m, _ => m
  | _, m, [] => m
  | n + 1, m, a :: t => belowN l n (roundB l a (m, t)).1 (roundB l a (m, t)).2
def below (l : List (Int × Int)) (r : Int) : List Bool := belowN l 7 (List.replicate 6 false) [r]
def Reach1 (l : List (Int × Int)) (a c : Nat) : Prop := ∃ b, Reach l a b ∧ Edge l b c
def Sound (l : List (Int × Int)) (r : Nat) (p : List Bool × List Int) : Prop := (∀ i, Has p.1 i → Reach1 l r i) ∧ ∀ z ∈ p.2, isR z = true ∧ Reach l r z.toNat
end Go.Proofs.Ytclpcglblcmcoaa.Flat.Roles
