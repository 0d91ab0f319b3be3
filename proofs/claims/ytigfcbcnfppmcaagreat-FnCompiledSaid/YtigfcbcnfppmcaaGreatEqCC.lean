/-
The leaves of a condition.
-/
import Derived.Test.YtigfcbcnfppmcaaGreatEqK
import Derived.Test.YtigfcbcnfppmcaaGreatEqDR
import Derived.Test.YtigfcbcnfppmcaaGreatEqTO
set_option linter.unusedVariables false
set_option linter.unusedSimpArgs false
set_option maxRecDepth 10000
namespace Go.Proofs.YtigfcbcnfppmcaaGreat.Flat
theorem evCall_rg {Φ : Phi} {nid n : Nat} {x y : AV} {dst : Option Nat} {st : St} : evCall Φ [.ro, .give] nid n [x, y] [] dst st = evGive Φ nid n [(.ro, x), (.give, y)] dst st := rfl
theorem finish_rg {P : Program} {rs : List ResultVar} {st : St} : finish P [.ro, .give] rs 0 st = finish P [] rs 0 st := rfl
noncomputable def addLeaf (x : Cond) (out : List Cond) : List Cond := if (inR x.op 2 6 && ((x.args.length : Int) == 0) && !(out.any fun own => decide (own = x))) = true then out ++ [x] else out
mutual
noncomputable def gather : Cond → List Cond → List Cond
  | ⟨o, a, b, s⟩, out => gathers s (addLeaf ⟨o, a, b, s⟩ out)
noncomputable def gathers : List Cond → List Cond → List Cond
  | [], out => out
  | c :: r, out => gathers r (gather c out)
end
theorem gather_eq (x : Cond) (out : List Cond) : gather x out = gathers x.args (addLeaf x out) := by
  cases x
  simp -implicitDefEqProofs only [gather]
def Leaves (l : List Cond) : Prop := ∀ c ∈ l, c.args = []
theorem addLeaf_leaves {x : Cond} {out : List Cond} (h : Leaves out) : Leaves (addLeaf x out) := by
  unfold addLeaf
  split
  · rename_i h2
    simp -implicitDefEqProofs only [Bool.and_eq_true, beq_iff_eq] at h2
    intro c hc
    rcases List.mem_append.1 hc with hc | hc
    · exact h c hc
    · rw [List.mem_singleton] at hc
      subst hc
      exact List.length_eq_zero_iff.1 (by have := h2.1.2; omega)
  · exact h
theorem addLeaf_len (x : Cond) (out : List Cond) : (addLeaf x out).length ≤ out.length + 1 := by
  unfold addLeaf
  split
  · simp
  · omega
theorem gather_facts (x : Cond) : ∀ out, (Leaves out → Leaves (gather x out)) ∧ (gather x out).length ≤ out.length + (x.w + 1) := by
  induction x using Cond.induct with
  | h x ih =>
    intro out
    have h : ∀ (s : List Cond), (∀ d ∈ s, d ∈ x.args) → ∀ out, (Leaves out → Leaves (gathers s out)) ∧ (gathers s out).length ≤ out.length + wl Cond.w s := by
      intro s
      induction s with
      | nil => intro _ out; exact ⟨fun h => h, by simp [gathers, wl]⟩
      | cons c r ihr =>
        intro hs out
        have h1 := ih c (hs c (by simp)) out
        have h2 := ihr (fun d hd => hs d (by simp [hd])) (gather c out)
        refine ⟨fun h => h2.1 (h1.1 h), ?_⟩
        simp -implicitDefEqProofs only [gathers, wl]
        omega
    have h3 := h x.args (fun d hd => hd) (addLeaf x out)
    have h4 := addLeaf_len x out
    rw [gather_eq, x.w_eq]
    exact ⟨fun h => h3.1 (addLeaf_leaves h), by omega⟩
theorem gathers_facts : ∀ (s : List Cond) (out : List Cond), (Leaves out → Leaves (gathers s out)) ∧ (gathers s out).length ≤ out.length + wl Cond.w s
  | [], out => ⟨fun h => h, by simp [gathers, wl]⟩
  | c :: r, out => by
    have h1 := gather_facts c out
    have h2 := gathers_facts r (gather c out)
    refine ⟨fun h => h2.1 (h1.1 h), ?_⟩
    simp -implicitDefEqProofs only [gathers, wl]
    omega
theorem scals_leaves : ∀ {l : List Cond}, Leaves l → AV.scals (l.map (Cond.enc true)) = true
  | [], _ => rfl
  | c :: r, h => by
    have h1 : c.args = [] := h c (by simp)
    simp -implicitDefEqProofs only [List.map_cons, AV.scals, enc_Cond, h1, List.map_nil, AV.scal, Bool.true_and, scals_leaves fun d hd => h d (List.mem_cons_of_mem _ hd)]
theorem wl_leaves : ∀ {l : List Cond}, Leaves l → wl Cond.w l = l.length
  | [], _ => rfl
  | c :: r, h => by
    have h1 : c.args = [] := h c (by simp)
    have h2 : c.w = 0 := by rw [c.w_eq, h1]; rfl
    simp -implicitDefEqProofs only [wl, List.length_cons, h2, wl_leaves fun d hd => h d (List.mem_cons_of_mem _ hd)]
    omega
def gStep (f : Cond → List Cond → List Cond) (_ : Nat) (c : Cond) (b : List Cond) : Sum (List Cond) (List Cond) := .inr (f c b)
theorem gLoop : ∀ (s : List Cond) (i : Nat) (b : List Cond), loopL (gStep gather) id i s b = gathers s b
  | [], i, b => rfl
  | c :: r, i, b => by
    simp -implicitDefEqProofs only [loopL, gStep, gathers]
    exact gLoop r _ _
theorem leaf_nil {x : Cond} (h : ((x.args.length : Int) == 0) = true) : x.args = [] := List.length_eq_zero_iff.1 (by rw [beq_iff_eq] at h; omega)
theorem r_impl_copyLeaf {fl : Bool} (k : Nat) (hk : 281474976710656 + 1 ≤ k) (x : Cond) (hx : x.args = []) : run E noExt k 41 [x.enc fl] [] = some (.agg [.int .i64 x.op, .int .i64 x.a, .int .i64 x.b, .nils], []) := by
  obtain ⟨k, rfl⟩ : ∃ j, k = j + 1 := ⟨k - 1, by omega⟩
  rw [run_succ rfl rfl, body_eq (nt := 29) (fn := Go.Proofs.Tryz.f41) (by kernel_rfl) rfl rfl rfl rfl rfl rfl rfl rfl]
  simp -implicitDefEqProofs only [QS, QN, QO, ZRS, ↓ZDS, ZRO, ↓ZDO, enc_Cond, hx, Go.Proofs.Tryz.f41, SO, SH, evAppend, rowOf, noref, isRef, isPtr, noPtr, isBad, AV.isUndef, dedup, nodupB, idx, AV.rows, AV.rowss, AV.mapO, AV.mapOs, SN, evCutRow, Int.reduceToNat, id_eq, Int.reduceBEq, Int.reduceLE, Int.reduceLT, SS, one_ne2, num_ne2, TIS, MDS, AV.cells, AV.isCell, Value.cells, Nat.reduceAdd, Nat.reduceEqDiff, Nat.reduceLT, Nat.reduceLeDiff, Nat.reduceMul, Nat.reduceSub, reduceIte]
  rw [ev_loop]
  refine Eq.trans (loop_list (Q := fun (_ : Unit) z => thenEnd E.P [] _ 0 (thenEv E _ _ _ _ _ (outOf 0 z)) = some (.agg [.int .i64 x.op, .int .i64 x.a, .int .i64 x.b, .nils], [])) ([] : List Unit) (fun _ _ _ => .inr ()) id
    (fun i _ => { sl := [(2, .ptr 0 0), (3, .ptr 1 0), (14, .sl fl []), (15, .int .i64 0), (16, .int .i64 (i : Nat))], bx := [(0, [.int .i64 0, .int .i64 0, .int .i64 0, .nils]), (1, [.int .i64 x.op, .int .i64 x.a, .int .i64 x.b, .nils])], nx := 2, nt := 29, tree := E.tree 41 }) (fun _ _ => True) () ?_ ?_ (by simp; omega) trivial ?_) rfl
  · intro _ _
    simp -implicitDefEqProofs only [QS, QN, QG, QO, ZRS, ↓ZDS, ZRG, ↓ZDG, ZRO, ↓ZDO, SO, SH, evAppend, rowOf, noref, isRef, isPtr, noPtr, isBad, AV.isUndef, leaf_some, isNormal, ifEv_bool, gate_bool, gateP_bool, gateQ_bool, pick_bool, SN, evCutRow, Int.reduceToNat, id_eq, Int.reduceBEq, Int.reduceLE, Int.reduceLT, SS, one_ne2, num_ne2, TIS, MDS, AV.cells, AV.isCell, Value.cells, Nat.reduceAdd, Nat.reduceEqDiff, Nat.reduceLT, Nat.reduceLeDiff, Nat.reduceMul, Nat.reduceSub, reduceIte]
    repeat' (split <;> (rename_i h; (try simp -implicitDefEqProofs only [Bool.not_eq_true', Bool.not_eq_false', decide_eq_true_eq, decide_eq_false_iff_not] at h); (try simp -implicitDefEqProofs only [QS, QN, QG, QO, ZRS, ↓ZDS, ZRG, ↓ZDG, ZRO, ↓ZDO, *, SO, SH, evAppend, rowOf, noref, isRef, isPtr, noPtr, isBad, AV.isUndef, leaf_some, isNormal, ifEv_bool, gate_bool, gateP_bool, gateQ_bool, pick_bool, SN, evCutRow, Int.reduceToNat, id_eq, Int.reduceBEq, Int.reduceLE, Int.reduceLT, SS, one_ne2, num_ne2, TIS, MDS, AV.cells, AV.isCell, Value.cells, Nat.reduceAdd, Nat.reduceEqDiff, Nat.reduceLT, Nat.reduceLeDiff, Nat.reduceMul, Nat.reduceSub, reduceIte])))
  · intro pre c r _ hs' _
    simp at hs'
  · simp -implicitDefEqProofs only [firstRegion]
    rw [keep_41_3]
    simp -implicitDefEqProofs only [QS, QN, QG, QO, ZRS, ↓ZDS, ZRG, ↓ZDG, ZRO, ↓ZDO, SN, evCutRow, Int.reduceToNat, id_eq, Int.reduceBEq, Int.reduceLE, Int.reduceLT, SO, SH, evAppend, rowOf, noref, isRef, isPtr, noPtr, isBad, AV.isUndef, SS, one_ne2, num_ne2, TIS, MDS, AV.cells, AV.isCell, Value.cells, Nat.reduceAdd, Nat.reduceEqDiff, Nat.reduceLT, Nat.reduceLeDiff, Nat.reduceMul, Nat.reduceSub, reduceIte]
theorem r_impl_gathered0 {fl : Bool} (x : Cond) : ∀ k, 290271069732864 + 4 * x.w + 20 ≤ k → x.w ≤ 1099511627776 → ∀ out, Leaves out → out.length + x.w ≤ 2199023255552 →
    run E noExt k 63 [x.enc fl, .own 0 false 28 4 (out.map (Cond.enc true))] [] = some (.own 0 false 28 4 ((gather x out).map (Cond.enc true)), []) := by
  induction x using Cond.induct with
  | h x ih =>
    intro k hk hx out ho hlen
    have hfa := gathers_facts x.args
    have hal := addLeaf_len x out
    have hav := addLeaf_leaves (x := x) ho
    rw [x.w_eq] at hk hx hlen
    have hs1 := wl_length Cond.w x.args
    have hs : x.args.length ≤ 140737488355328 := by omega
    have cc := fun c hc => ih c hc (k - 1) (by have := wl_mem (w := Cond.w) hc; omega) (by have := wl_mem (w := Cond.w) hc; omega)
    have c1 := r_impl_InRange (k - 1) (by omega) x.op 2 6
    have c2 := r_slices_ContainsFunc_Cond (fl := true) (k - 1) out (by omega) (by omega) 95 [.cptr [.int .i64 x.op, .int .i64 x.a, .int .i64 x.b, .sl fl (x.args.map (Cond.enc fl))]] (plain_of rfl) (fun own => decide (own = x)) (fun c hc => by
      have c0 := r_impl_EqualConds (fl := true) (gl := fl) (k - 4) (by omega) c x (by rw [c.w_eq, ho c hc]; simp [wl])
      rw [show k - 1 - 2 = (k - 4) + 1 by omega]
      rw [run_succ rfl rfl, body_eq (nt := 7) (fn := Go.Proofs.Tryz.f95) (by kernel_rfl) rfl rfl rfl rfl rfl rfl rfl rfl]
      simp -implicitDefEqProofs only [enc_Cond] at c0
      simp -implicitDefEqProofs only [QS, QN, ZRS, ↓ZDS, enc_Cond, Go.Proofs.Tryz.f95, c0, SN, evCutRow, Int.reduceToNat, id_eq, Int.reduceBEq, Int.reduceLE, Int.reduceLT, SS, one_ne2, num_ne2, TIS, MDS, AV.cells, AV.isCell, Value.cells, Nat.reduceAdd, Nat.reduceEqDiff, Nat.reduceLT, Nat.reduceLeDiff, Nat.reduceMul, Nat.reduceSub, reduceIte])
    have c3 := fun h => r_impl_copyLeaf (fl := fl) (k - 1) (by omega) x (leaf_nil h)
    have hm1 : (out.length + 1) * 48 ≤ 140737488355328 := by omega
    have hm2 : out.length + 1 ≤ 9223372036854775807 := by omega
    have hpl : plains [(AV.agg [.int .i64 x.op, .int .i64 x.a, .int .i64 x.b, .sl true []])] = true := rfl
    have hsc := scals_leaves ho
    rw [gather_eq]
    obtain ⟨k, rfl⟩ : ∃ j, k = j + 1 := ⟨k - 1, by omega⟩
    rw [run_succ rfl rfl, body_eq (nt := 39) (fn := Go.Proofs.Tryz.f63) (by kernel_rfl) rfl rfl rfl rfl rfl rfl rfl rfl]
    simp -implicitDefEqProofs only [Nat.add_sub_cancel, enc_Cond] at c1 c2 c3 cc
    clear ih
    have hA : (addLeaf x out).map (Cond.enc true) = if (inR x.op 2 6 && ((x.args.length : Int) == 0) && !(out.any fun own => decide (own = x))) = true then out.map (Cond.enc true) ++ [.agg [.int .i64 x.op, .int .i64 x.a, .int .i64 x.b, .sl true []]] else out.map (Cond.enc true) := by
      unfold addLeaf
      split
      · rename_i h
        simp -implicitDefEqProofs only [Bool.and_eq_true] at h
        have hL := leaf_nil h.1.2
        rw [List.map_append, List.map_cons, List.map_nil, enc_Cond, hL]
        rfl
      · rfl
    generalize addLeaf x out = b0 at *
    generalize out.any (fun own => decide (own = x)) = an at *
    generalize inR x.op 2 6 = io at *
    generalize hLL : ((x.args.length : Int) == 0) = L0 at *
    have hwd := fun i => (wl_append Cond.w (x.args.take i) (x.args.drop i)).symm
    simp -implicitDefEqProofs only [List.take_append_drop] at hwd
    cases io <;> cases L0 <;> cases an
    all_goals
      simp -implicitDefEqProofs only [Bool.and_self, Bool.and_true, Bool.and_false, Bool.not_true, Bool.not_false, Bool.false_and, Bool.true_and, Bool.false_eq_true, if_false, if_true] at hA
      simp -implicitDefEqProofs only [QS, QN, QO, ZRS, ↓ZDS, ZRO, ↓ZDO, Go.Proofs.Tryz.f63, enc_Cond, hLL, c1, c2, c3, hm1, hm2, hpl, hsc, not_false_eq_true, ifEv_bool, gate_bool, pick_bool, if_false, if_true, SO, SH, evAppend, rowOf, noref, isRef, isPtr, noPtr, isBad, AV.isUndef, dedup, nodupB, idx, AV.rows, AV.rowss, AV.mapO, AV.mapOs, SN, evCutRow, Int.reduceToNat, id_eq, Int.reduceBEq, Int.reduceLE, Int.reduceLT, SS, one_ne2, num_ne2, TIS, MDS, AV.cells, AV.isCell, Value.cells, Nat.reduceAdd, Nat.reduceEqDiff, Nat.reduceLT, Nat.reduceLeDiff, Nat.reduceMul, Nat.reduceSub, reduceIte]
      rw [ev_loop]
      refine Eq.trans (loop_list (Q := fun (g : List Cond) z => thenEnd E.P _ _ 0 (thenEv E _ _ _ _ _ (outOf 0 z)) = some (.own 0 false 28 4 (g.map (Cond.enc true)), [])) x.args (gStep gather) id
        (fun i b => { sl := [(1, .own 0 false 28 4 (b.map (Cond.enc true))), (28, .sl fl (x.args.map (Cond.enc fl))), (29, .int .i64 (x.args.length : Nat)), (30, .int .i64 (i : Nat))], bx := [], nx := 1, nt := 39 })
        (fun i b => Leaves b ∧ b.length + wl Cond.w (x.args.drop i) ≤ out.length + 1 + wl Cond.w x.args) b0 ?_ ?_ (by omega) ⟨hav, by rw [List.drop_zero]; omega⟩ ?_) ?_
      · intro b _
        simp -implicitDefEqProofs only [QS, QN, QG, QO, ZRS, ↓ZDS, ZRG, ↓ZDG, ZRO, ↓ZDO, finish_rg, SO, SH, evAppend, rowOf, noref, isRef, isPtr, noPtr, isBad, AV.isUndef, leaf_some, isNormal, ifEv_bool, gate_bool, gateP_bool, gateQ_bool, pick_bool, SN, evCutRow, Int.reduceToNat, id_eq, Int.reduceBEq, Int.reduceLE, Int.reduceLT, SS, one_ne2, num_ne2, TIS, MDS, AV.cells, AV.isCell, Value.cells, Nat.reduceAdd, Nat.reduceEqDiff, Nat.reduceLT, Nat.reduceLeDiff, Nat.reduceMul, Nat.reduceSub, reduceIte]
        repeat' (split <;> (rename_i h; (try simp -implicitDefEqProofs only [Bool.not_eq_true', Bool.not_eq_false', decide_eq_true_eq, decide_eq_false_iff_not] at h); (try simp -implicitDefEqProofs only [QS, QN, QG, QO, ZRS, ↓ZDS, ZRG, ↓ZDG, ZRO, ↓ZDO, *, finish_rg, SO, SH, evAppend, rowOf, noref, isRef, isPtr, noPtr, isBad, AV.isUndef, leaf_some, isNormal, ifEv_bool, gate_bool, gateP_bool, gateQ_bool, pick_bool, SN, evCutRow, Int.reduceToNat, id_eq, Int.reduceBEq, Int.reduceLE, Int.reduceLT, SS, one_ne2, num_ne2, TIS, MDS, AV.cells, AV.isCell, Value.cells, Nat.reduceAdd, Nat.reduceEqDiff, Nat.reduceLT, Nat.reduceLeDiff, Nat.reduceMul, Nat.reduceSub, reduceIte])))
      · intro pre c r b hs' ⟨hb1, hb2⟩
        have hx := (at_row hs' hs).1; have hc := (at_row hs' hs).2.1; have hlt := (at_row hs' hs).2.2.1; have hw1 := (at_row hs' hs).2.2.2.1; have hl9 := (at_row hs' hs).2.2.2.2
        have hd : x.args.drop pre.length = c :: r := by rw [hs']; simp
        have hd1 : x.args.drop (pre.length + 1) = r := by rw [hs']; simp
        have hg1 := gather_facts c b
        rw [hd] at hb2
        simp -implicitDefEqProofs only [wl] at hb2
        have c4 := cc c hc b hb1 (by omega)
        have hI : Leaves (gather c b) ∧ (gather c b).length + wl Cond.w (x.args.drop (pre.length + 1)) ≤ out.length + 1 + wl Cond.w x.args := by
          rw [hd1]
          exact ⟨hg1.1 hb1, by have := hg1.2; omega⟩
        clear hs' hd hd1
        have hs1 := scals_leaves hb1
        have hs2 := scals_leaves hI.1
        simp -implicitDefEqProofs only [QS, QN, QG, QO, ZRS, ↓ZDS, ZRG, ↓ZDG, ZRO, ↓ZDO, enc_Cond, hx, hlt, hw1, c4, hs1, hs2, gStep, evCall_rg, look_cons, reduceCtorEq, evCall_mutOwn, evCall_mutAgg, evGive, giveRows, ioBoxes, mutArgs, roArgs, handArg, mutSlots, isPtrB, pairs, pairss, back_nil, back_cons, backO, backE, setBoxes, importB, mode_mut, mode_give, mode_io, mode_ro, List.zip_cons_cons, List.zip_nil_left, List.zip_nil_right, ite_self, ite_true, ite_false, finish_give, finish_mut1, finish_io0, finish_io1, finish_io2, finish_io3, finish_ioc, finI, finC, finW_ptr, SO, SH, evAppend, rowOf, noref, isRef, isPtr, noPtr, isBad, AV.isUndef, keep_63_4, leaf_some, isNormal, ifEv_bool, gate_bool, gateP_bool, gateQ_bool, pick_bool, SN, evCutRow, Int.reduceToNat, id_eq, Int.reduceBEq, Int.reduceLE, Int.reduceLT, SS, one_ne2, num_ne2, TIS, MDS, AV.cells, AV.isCell, Value.cells, Nat.reduceAdd, Nat.reduceEqDiff, Nat.reduceLT, Nat.reduceLeDiff, Nat.reduceMul, Nat.reduceSub, reduceIte]
        repeat' (split <;> (rename_i h; (try simp -implicitDefEqProofs only [Bool.not_eq_true', Bool.not_eq_false', decide_eq_true_eq, decide_eq_false_iff_not] at h); (try simp -implicitDefEqProofs only [QS, QN, QG, QO, ZRS, ↓ZDS, ZRG, ↓ZDG, ZRO, ↓ZDO, *, enc_Cond, hx, hlt, hw1, c4, hs1, hs2, gStep, evCall_rg, look_cons, reduceCtorEq, evCall_mutOwn, evCall_mutAgg, evGive, giveRows, ioBoxes, mutArgs, roArgs, handArg, mutSlots, isPtrB, pairs, pairss, back_nil, back_cons, backO, backE, setBoxes, importB, mode_mut, mode_give, mode_io, mode_ro, List.zip_cons_cons, List.zip_nil_left, List.zip_nil_right, ite_self, ite_true, ite_false, finish_give, finish_mut1, finish_io0, finish_io1, finish_io2, finish_io3, finish_ioc, finI, finC, finW_ptr, SO, SH, evAppend, rowOf, noref, isRef, isPtr, noPtr, isBad, AV.isUndef, keep_63_4, leaf_some, isNormal, ifEv_bool, gate_bool, gateP_bool, gateQ_bool, pick_bool, SN, evCutRow, Int.reduceToNat, id_eq, Int.reduceBEq, Int.reduceLE, Int.reduceLT, SS, one_ne2, num_ne2, TIS, MDS, AV.cells, AV.isCell, Value.cells, Nat.reduceAdd, Nat.reduceEqDiff, Nat.reduceLT, Nat.reduceLeDiff, Nat.reduceMul, Nat.reduceSub, reduceIte])))
        exact hI
      · simp -implicitDefEqProofs only [firstRegion]
        rw [keep_63_4]
        simp -implicitDefEqProofs only [QS, QN, QG, QO, ZRS, ↓ZDS, ZRG, ↓ZDG, ZRO, ↓ZDO, hA, SN, evCutRow, Int.reduceToNat, id_eq, Int.reduceBEq, Int.reduceLE, Int.reduceLT, SO, SH, evAppend, rowOf, noref, isRef, isPtr, noPtr, isBad, AV.isUndef, SS, one_ne2, num_ne2, TIS, MDS, AV.cells, AV.isCell, Value.cells, Nat.reduceAdd, Nat.reduceEqDiff, Nat.reduceLT, Nat.reduceLeDiff, Nat.reduceMul, Nat.reduceSub, reduceIte]
      · rw [gLoop]
end Go.Proofs.YtigfcbcnfppmcaaGreat.Flat
set_option linter.unusedVariables false
set_option linter.unusedSimpArgs false
set_option maxRecDepth 10000
namespace Go.Proofs.YtigfcbcnfppmcaaGreat.Flat
noncomputable def atomsL (a o : Int) : List Rule → List Cond → List Cond
  | [], out => out
  | r :: rs, out => atomsL a o rs (if isFor r a o = true then gather r.cond out else out)
noncomputable def atomsOf (p : Policy) (a o : Int) : List Cond := atomsL a o p.rules []
noncomputable def atStep (a o : Int) (_ : Nat) (r : Rule) (b : List Cond) : Sum (List Cond) (List Cond) := .inr (if isFor r a o = true then gather r.cond b else b)
theorem atLoop (a o : Int) : ∀ (s : List Rule) (i : Nat) (b : List Cond), loopL (atStep a o) id i s b = atomsL a o s b
  | [], i, b => rfl
  | c :: r, i, b => by
    simp -implicitDefEqProofs only [loopL, atStep, atomsL]
    exact atLoop a o r _ _
theorem atomsL_facts (a o : Int) : ∀ (s : List Rule) (out : List Cond), (Leaves out → Leaves (atomsL a o s out)) ∧ (atomsL a o s out).length ≤ out.length + wl Rule.w s
  | [], out => ⟨fun h => h, by simp [atomsL, wl]⟩
  | c :: r, out => by
    have h1 := gather_facts c.cond out
    have hw : c.w = c.cond.w := rfl
    simp -implicitDefEqProofs only [atomsL, wl]
    cases e : isFor c a o
    · have h2 := atomsL_facts a o r out
      simp -implicitDefEqProofs only [Bool.false_eq_true, if_false]
      exact ⟨h2.1, by omega⟩
    · have h2 := atomsL_facts a o r (gather c.cond out)
      simp -implicitDefEqProofs only [if_true]
      exact ⟨fun h => h2.1 (h1.1 h), by omega⟩
theorem leaves_nil : Leaves [] := fun _ h => by simp at h
theorem atomsOf_leaves (p : Policy) (a o : Int) : Leaves (atomsOf p a o) := (atomsL_facts a o p.rules []).1 leaves_nil
theorem atomsOf_len (p : Policy) (a o : Int) : (atomsOf p a o).length ≤ p.w := by
  have := (atomsL_facts a o p.rules []).2
  unfold atomsOf Policy.w
  simpa using this
theorem r_impl_AtomsFor {fl : Bool} (k : Nat) (p : Policy) (hk : 290271069732864 + 4 * p.w + 30 ≤ k) (hp : p.w ≤ 1099511627776) (a o : Int) :
    run E noExt k 24 [p.enc fl, .int .i64 a, .int .i64 o] [] = some (.own 0 false 28 4 ((atomsOf p a o).map (Cond.enc true)), []) := by
  unfold Policy.w at hk hp
  have hs1 := wl_length Rule.w p.rules
  have hs : p.rules.length ≤ 140737488355328 := by omega
  have c1 := fun (c : Rule) => r_impl_IsFor (fl := fl) (k - 1) (by omega) c a o
  have c2 := fun (c : Rule) (hc : c ∈ p.rules) out ho hl => r_impl_gathered0 (fl := fl) c.cond (k - 1) (by have := wl_mem (w := Rule.w) hc; have hw : c.w = c.cond.w := rfl; omega) (by have := wl_mem (w := Rule.w) hc; have hw : c.w = c.cond.w := rfl; omega) out ho hl
  unfold atomsOf
  obtain ⟨k, rfl⟩ : ∃ j, k = j + 1 := ⟨k - 1, by omega⟩
  rw [run_succ rfl rfl, body_eq (nt := 28) (fn := Go.Proofs.Tryz.f24) (by kernel_rfl) rfl rfl rfl rfl rfl rfl rfl rfl]
  simp -implicitDefEqProofs only [Nat.add_sub_cancel, enc_Cond, enc_Rule] at c1 c2
  simp -implicitDefEqProofs only [QS, QN, QO, ZRS, ↓ZDS, ZRO, ↓ZDO, Go.Proofs.Tryz.f24, enc_Policy, SO, SH, evAppend, rowOf, noref, isRef, isPtr, noPtr, isBad, AV.isUndef, dedup, nodupB, idx, AV.rows, AV.rowss, AV.mapO, AV.mapOs, SN, evCutRow, Int.reduceToNat, id_eq, Int.reduceBEq, Int.reduceLE, Int.reduceLT, SS, one_ne2, num_ne2, TIS, MDS, AV.cells, AV.isCell, Value.cells, Nat.reduceAdd, Nat.reduceEqDiff, Nat.reduceLT, Nat.reduceLeDiff, Nat.reduceMul, Nat.reduceSub, reduceIte]
  rw [ev_loop]
  refine Eq.trans (loop_list (Q := fun (g : List Cond) z => thenEnd E.P _ _ 0 (thenEv E _ _ _ _ _ (outOf 0 z)) = some (.own 0 false 28 4 (g.map (Cond.enc true)), [])) p.rules (atStep a o) id
    (fun i b => { sl := [(1, .int .i64 a), (2, .int .i64 o), (7, .own 0 false 28 4 (b.map (Cond.enc true))), (12, .sl fl (p.rules.map (Rule.enc fl))), (13, .int .i64 (p.rules.length : Nat)), (14, .int .i64 (i : Nat))], bx := [], nx := 1, nt := 28 })
    (fun i b => Leaves b ∧ b.length + wl Rule.w (p.rules.drop i) ≤ wl Rule.w p.rules) [] ?_ ?_ (by omega) ⟨leaves_nil, by simp⟩ ?_) ?_
  · intro b _
    simp -implicitDefEqProofs only [QS, QN, QG, QO, ZRS, ↓ZDS, ZRG, ↓ZDG, ZRO, ↓ZDO, SO, SH, evAppend, rowOf, noref, isRef, isPtr, noPtr, isBad, AV.isUndef, leaf_some, isNormal, ifEv_bool, gate_bool, gateP_bool, gateQ_bool, pick_bool, SN, evCutRow, Int.reduceToNat, id_eq, Int.reduceBEq, Int.reduceLE, Int.reduceLT, SS, one_ne2, num_ne2, TIS, MDS, AV.cells, AV.isCell, Value.cells, Nat.reduceAdd, Nat.reduceEqDiff, Nat.reduceLT, Nat.reduceLeDiff, Nat.reduceMul, Nat.reduceSub, reduceIte]
    repeat' (split <;> (rename_i h; (try simp -implicitDefEqProofs only [Bool.not_eq_true', Bool.not_eq_false', decide_eq_true_eq, decide_eq_false_iff_not] at h); (try simp -implicitDefEqProofs only [QS, QN, QG, QO, ZRS, ↓ZDS, ZRG, ↓ZDG, ZRO, ↓ZDO, *, SO, SH, evAppend, rowOf, noref, isRef, isPtr, noPtr, isBad, AV.isUndef, leaf_some, isNormal, ifEv_bool, gate_bool, gateP_bool, gateQ_bool, pick_bool, SN, evCutRow, Int.reduceToNat, id_eq, Int.reduceBEq, Int.reduceLE, Int.reduceLT, SS, one_ne2, num_ne2, TIS, MDS, AV.cells, AV.isCell, Value.cells, Nat.reduceAdd, Nat.reduceEqDiff, Nat.reduceLT, Nat.reduceLeDiff, Nat.reduceMul, Nat.reduceSub, reduceIte])))
  · intro pre c r b hs' ⟨hb1, hb2⟩
    have hx := (at_row hs' hs).1; have hc := (at_row hs' hs).2.1; have hlt := (at_row hs' hs).2.2.1; have hw1 := (at_row hs' hs).2.2.2.1; have hl9 := (at_row hs' hs).2.2.2.2
    have hd : p.rules.drop pre.length = c :: r := by rw [hs']; simp
    have hd1 : p.rules.drop (pre.length + 1) = r := by rw [hs']; simp
    have hg1 := gather_facts c.cond b
    have hw : c.w = c.cond.w := rfl
    rw [hd] at hb2
    simp -implicitDefEqProofs only [wl] at hb2
    have c3 := c1 c
    have c4 := c2 c hc b hb1 (by omega)
    have hI : Leaves (if isFor c a o = true then gather c.cond b else b) ∧ (if isFor c a o = true then gather c.cond b else b).length + wl Rule.w (p.rules.drop (pre.length + 1)) ≤ wl Rule.w p.rules := by
      rw [hd1]
      split
      · exact ⟨hg1.1 hb1, by have := hg1.2; omega⟩
      · exact ⟨hb1, by omega⟩
    have hst : atStep a o pre.length c b = .inr (if isFor c a o = true then gather c.cond b else b) := rfl
    clear hs' hd hd1 c1 c2
    have hs1 := scals_leaves hb1
    have hs2 := scals_leaves (hg1.1 hb1)
    cases e : isFor c a o <;> rw [e] at c3 hst hI <;> simp -implicitDefEqProofs only [Bool.false_eq_true, if_false, if_true] at hst hI
    all_goals
      simp -implicitDefEqProofs only [QS, QN, QG, QO, ZRS, ↓ZDS, ZRG, ↓ZDG, ZRO, ↓ZDO, enc_Rule, enc_Cond, hx, hlt, hw1, c3, c4, hs1, hs2, hst, evCall_rg, look_cons, reduceCtorEq, evCall_mutOwn, evCall_mutAgg, evGive, giveRows, ioBoxes, mutArgs, roArgs, handArg, mutSlots, isPtrB, pairs, pairss, back_nil, back_cons, backO, backE, setBoxes, importB, mode_mut, mode_give, mode_io, mode_ro, List.zip_cons_cons, List.zip_nil_left, List.zip_nil_right, ite_self, ite_true, ite_false, finish_give, finish_mut1, finish_io0, finish_io1, finish_io2, finish_io3, finish_ioc, finI, finC, finW_ptr, SO, SH, evAppend, rowOf, noref, isRef, isPtr, noPtr, isBad, AV.isUndef, keep_24_3, leaf_some, isNormal, ifEv_bool, gate_bool, gateP_bool, gateQ_bool, pick_bool, SN, evCutRow, Int.reduceToNat, id_eq, Int.reduceBEq, Int.reduceLE, Int.reduceLT, SS, one_ne2, num_ne2, TIS, MDS, AV.cells, AV.isCell, Value.cells, Nat.reduceAdd, Nat.reduceEqDiff, Nat.reduceLT, Nat.reduceLeDiff, Nat.reduceMul, Nat.reduceSub, reduceIte]
      repeat' (split <;> (rename_i h; (try simp -implicitDefEqProofs only [Bool.not_eq_true', Bool.not_eq_false', decide_eq_true_eq, decide_eq_false_iff_not] at h); (try simp -implicitDefEqProofs only [QS, QN, QG, QO, ZRS, ↓ZDS, ZRG, ↓ZDG, ZRO, ↓ZDO, *, enc_Rule, enc_Cond, hx, hlt, hw1, c3, c4, hs1, hs2, hst, evCall_rg, look_cons, reduceCtorEq, evCall_mutOwn, evCall_mutAgg, evGive, giveRows, ioBoxes, mutArgs, roArgs, handArg, mutSlots, isPtrB, pairs, pairss, back_nil, back_cons, backO, backE, setBoxes, importB, mode_mut, mode_give, mode_io, mode_ro, List.zip_cons_cons, List.zip_nil_left, List.zip_nil_right, ite_self, ite_true, ite_false, finish_give, finish_mut1, finish_io0, finish_io1, finish_io2, finish_io3, finish_ioc, finI, finC, finW_ptr, SO, SH, evAppend, rowOf, noref, isRef, isPtr, noPtr, isBad, AV.isUndef, keep_24_3, leaf_some, isNormal, ifEv_bool, gate_bool, gateP_bool, gateQ_bool, pick_bool, SN, evCutRow, Int.reduceToNat, id_eq, Int.reduceBEq, Int.reduceLE, Int.reduceLT, SS, one_ne2, num_ne2, TIS, MDS, AV.cells, AV.isCell, Value.cells, Nat.reduceAdd, Nat.reduceEqDiff, Nat.reduceLT, Nat.reduceLeDiff, Nat.reduceMul, Nat.reduceSub, reduceIte])))
      exact hI
  · simp -implicitDefEqProofs only [firstRegion]
    rw [keep_24_3]
    simp -implicitDefEqProofs only [QS, QN, QG, QO, ZRS, ↓ZDS, ZRG, ↓ZDG, ZRO, ↓ZDO, SN, evCutRow, Int.reduceToNat, id_eq, Int.reduceBEq, Int.reduceLE, Int.reduceLT, SO, SH, evAppend, rowOf, noref, isRef, isPtr, noPtr, isBad, AV.isUndef, SS, one_ne2, num_ne2, TIS, MDS, AV.cells, AV.isCell, Value.cells, Nat.reduceAdd, Nat.reduceEqDiff, Nat.reduceLT, Nat.reduceLeDiff, Nat.reduceMul, Nat.reduceSub, reduceIte]
  · rw [atLoop]
end Go.Proofs.YtigfcbcnfppmcaaGreat.Flat
set_option linter.unusedVariables false
set_option linter.unusedSimpArgs false
set_option maxRecDepth 10000
namespace Go.Proofs.YtigfcbcnfppmcaaGreat.Flat
theorem range_at {n : Nat} {pre r : List Nat} {x : Nat} (h : List.range n = pre ++ x :: r) : x = pre.length ∧ pre.length < n := by
  have h1 : (List.range n)[pre.length]? = some x := by rw [h]; simp
  obtain ⟨h2, h3⟩ := List.getElem?_eq_some_iff.1 h1
  rw [List.getElem_range] at h3
  simp at h2
  exact ⟨h3.symm, h2⟩
end Go.Proofs.YtigfcbcnfppmcaaGreat.Flat
