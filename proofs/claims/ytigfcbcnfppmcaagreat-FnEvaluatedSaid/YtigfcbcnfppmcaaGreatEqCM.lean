/-
The leaves of a condition.
-/
import Derived.Test.YtigfcbcnfppmcaaGreatEqK
import Derived.Test.YtigfcbcnfppmcaaGreatEqDR
import Derived.Test.YtigfcbcnfppmcaaGreatEqU
import Derived.Test.YtigfcbcnfppmcaaGreatEqL
set_option linter.unusedVariables false
set_option linter.unusedSimpArgs false
set_option maxRecDepth 10000
namespace Go.Proofs.YtigfcbcnfppmcaaGreat.Flat
theorem evCall_rg {Φ : Phi} {nid n : Nat} {x y : AV} {dst : Option Nat} {st : St} : evCall Φ [.ro, .give] nid n [x, y] [] dst st = evGive Φ nid n [(.ro, x), (.give, y)] dst st := rfl
theorem finish_rg {P : Program} {rs : List ResultVar} {st : St} : finish P [.ro, .give] rs 0 st = finish P [] rs 0 st := rfl
noncomputable def addLeaf (x : Cond) (out : List Cond) : List Cond := if (inR x.op 2 6 && ((x.args.length : Int) == 0) && !(out.any fun own => decide (own = x))) = true then out ++ [x] else out
mutual
noncomputable def gather : Cond → List Cond → List Cond
  | ⟨o, a, b, s⟩, out => gathers s (addLeaf ⟨o, a, b, s⟩ out)
noncomputable def gathers : List Cond → List Cond → List Cond
  | [], out => out
  | c :: r, out => gathers r (gather c out)
end
theorem gather_eq (x : Cond) (out : List Cond) : gather x out = gathers x.args (addLeaf x out) := by
  cases x
  simp -implicitDefEqProofs only [gather]
def Leaves (l : List Cond) : Prop := ∀ c ∈ l, c.args = []
theorem addLeaf_leaves {x : Cond} {out : List Cond} (h : Leaves out) : Leaves (addLeaf x out) := by
  unfold addLeaf
  split
  · rename_i h2
    simp -implicitDefEqProofs only [Bool.and_eq_true, beq_iff_eq] at h2
    intro c hc
    rcases List.mem_append.1 hc with hc | hc
    · exact h c hc
    · rw [List.mem_singleton] at hc
      subst hc
      exact List.length_eq_zero_iff.1 (by have := h2.1.2; omega)
  · exact h
theorem addLeaf_len (x : Cond) (out : List Cond) : (addLeaf x out).length ≤ out.length + 1 := by
  unfold addLeaf
  split
  · simp
  · omega
theorem gather_facts (x : Cond) : ∀ out, (Leaves out → Leaves (gather x out)) ∧ (gather x out).length ≤ out.length + (x.w + 1) := by
  induction x using Cond.induct with
  | h x ih =>
    intro out
    have h : ∀ (s : List Cond), (∀ d ∈ s, d ∈ x.args) → ∀ out, (Leaves out → Leaves (gathers s out)) ∧ (gathers s out).length ≤ out.length + wl Cond.w s := by
      intro s
      induction s with
      | nil => intro _ out; exact ⟨fun h => h, by simp [gathers, wl]⟩
      | cons c r ihr =>
        intro hs out
        have h1 := ih c (hs c (by simp)) out
        have h2 := ihr (fun d hd => hs d (by simp [hd])) (gather c out)
        refine ⟨fun h => h2.1 (h1.1 h), ?_⟩
        simp -implicitDefEqProofs only [gathers, wl]
        omega
    have h3 := h x.args (fun d hd => hd) (addLeaf x out)
    have h4 := addLeaf_len x out
    rw [gather_eq, x.w_eq]
    exact ⟨fun h => h3.1 (addLeaf_leaves h), by omega⟩
theorem gathers_facts : ∀ (s : List Cond) (out : List Cond), (Leaves out → Leaves (gathers s out)) ∧ (gathers s out).length ≤ out.length + wl Cond.w s
  | [], out => ⟨fun h => h, by simp [gathers, wl]⟩
  | c :: r, out => by
    have h1 := gather_facts c out
    have h2 := gathers_facts r (gather c out)
    refine ⟨fun h => h2.1 (h1.1 h), ?_⟩
    simp -implicitDefEqProofs only [gathers, wl]
    omega
theorem scals_leaves : ∀ {l : List Cond}, Leaves l → AV.scals (l.map (Cond.enc true)) = true
  | [], _ => rfl
  | c :: r, h => by
    have h1 : c.args = [] := h c (by simp)
    simp -implicitDefEqProofs only [List.map_cons, AV.scals, enc_Cond, h1, List.map_nil, AV.scal, Bool.true_and, scals_leaves fun d hd => h d (List.mem_cons_of_mem _ hd)]
def gStep (f : Cond → List Cond → List Cond) (_ : Nat) (c : Cond) (b : List Cond) : Sum (List Cond) (List Cond) := .inr (f c b)
theorem gLoop : ∀ (s : List Cond) (i : Nat) (b : List Cond), loopL (gStep gather) id i s b = gathers s b
  | [], i, b => rfl
  | c :: r, i, b => by
    simp -implicitDefEqProofs only [loopL, gStep, gathers]
    exact gLoop r _ _
theorem leaf_nil {x : Cond} (h : ((x.args.length : Int) == 0) = true) : x.args = [] := List.length_eq_zero_iff.1 (by rw [beq_iff_eq] at h; omega)
theorem r_impl_copyLeaf {fl : Bool} (k : Nat) (hk : 281474976710656 + 1 ≤ k) (x : Cond) (hx : x.args = []) : run E noExt k 41 [x.enc fl] [] = some (.agg [.int .i64 x.op, .int .i64 x.a, .int .i64 x.b, .nils], []) := by
  obtain ⟨k, rfl⟩ : ∃ j, k = j + 1 := ⟨k - 1, by omega⟩
  rw [run_succ rfl rfl, body_eq (nt := 29) (fn := Go.Proofs.Tryz.f41) (by kernel_rfl) rfl rfl rfl rfl rfl rfl rfl rfl]
  simp -implicitDefEqProofs only [QS, QN, QO, ZRS, ↓ZDS, ZRO, ↓ZDO, enc_Cond, hx, Go.Proofs.Tryz.f41, SO, SH, evAppend, rowOf, noref, isRef, isPtr, noPtr, isBad, AV.isUndef, dedup, nodupB, idx, AV.rows, AV.rowss, AV.mapO, AV.mapOs, SN, evCutRow, Int.reduceToNat, id_eq, Int.reduceBEq, Int.reduceLE, Int.reduceLT, SS, one_ne2, num_ne2, TIS, MDS, AV.cells, AV.isCell, Value.cells, Nat.reduceAdd, Nat.reduceEqDiff, Nat.reduceLT, Nat.reduceLeDiff, Nat.reduceMul, Nat.reduceSub, reduceIte]
  rw [ev_loop]
  refine Eq.trans (loop_list (Q := fun (_ : Unit) z => thenEnd E.P [] _ 0 (thenEv E _ _ _ _ _ (outOf 0 z)) = some (.agg [.int .i64 x.op, .int .i64 x.a, .int .i64 x.b, .nils], [])) ([] : List Unit) (fun _ _ _ => .inr ()) id
    (fun i _ => { sl := [(2, .ptr 0 0), (3, .ptr 1 0), (14, .sl fl []), (15, .int .i64 0), (16, .int .i64 (i : Nat))], bx := [(0, [.int .i64 0, .int .i64 0, .int .i64 0, .nils]), (1, [.int .i64 x.op, .int .i64 x.a, .int .i64 x.b, .nils])], nx := 2, nt := 29, tree := E.tree 41 }) (fun _ _ => True) () ?_ ?_ (by simp; omega) trivial ?_) rfl
  · intro _ _
    simp -implicitDefEqProofs only [QS, QN, QG, QO, ZRS, ↓ZDS, ZRG, ↓ZDG, ZRO, ↓ZDO, SO, SH, evAppend, rowOf, noref, isRef, isPtr, noPtr, isBad, AV.isUndef, leaf_some, isNormal, ifEv_bool, gate_bool, gateP_bool, gateQ_bool, pick_bool, SN, evCutRow, Int.reduceToNat, id_eq, Int.reduceBEq, Int.reduceLE, Int.reduceLT, SS, one_ne2, num_ne2, TIS, MDS, AV.cells, AV.isCell, Value.cells, Nat.reduceAdd, Nat.reduceEqDiff, Nat.reduceLT, Nat.reduceLeDiff, Nat.reduceMul, Nat.reduceSub, reduceIte]
    repeat' (split <;> (rename_i h; (try simp -implicitDefEqProofs only [Bool.not_eq_true', Bool.not_eq_false', decide_eq_true_eq, decide_eq_false_iff_not] at h); (try simp -implicitDefEqProofs only [QS, QN, QG, QO, ZRS, ↓ZDS, ZRG, ↓ZDG, ZRO, ↓ZDO, *, SO, SH, evAppend, rowOf, noref, isRef, isPtr, noPtr, isBad, AV.isUndef, leaf_some, isNormal, ifEv_bool, gate_bool, gateP_bool, gateQ_bool, pick_bool, SN, evCutRow, Int.reduceToNat, id_eq, Int.reduceBEq, Int.reduceLE, Int.reduceLT, SS, one_ne2, num_ne2, TIS, MDS, AV.cells, AV.isCell, Value.cells, Nat.reduceAdd, Nat.reduceEqDiff, Nat.reduceLT, Nat.reduceLeDiff, Nat.reduceMul, Nat.reduceSub, reduceIte])))
  · intro pre c r _ hs' _
    simp at hs'
  · simp -implicitDefEqProofs only [firstRegion]
    rw [keep_41_3]
    simp -implicitDefEqProofs only [QS, QN, QG, QO, ZRS, ↓ZDS, ZRG, ↓ZDG, ZRO, ↓ZDO, SN, evCutRow, Int.reduceToNat, id_eq, Int.reduceBEq, Int.reduceLE, Int.reduceLT, SO, SH, evAppend, rowOf, noref, isRef, isPtr, noPtr, isBad, AV.isUndef, SS, one_ne2, num_ne2, TIS, MDS, AV.cells, AV.isCell, Value.cells, Nat.reduceAdd, Nat.reduceEqDiff, Nat.reduceLT, Nat.reduceLeDiff, Nat.reduceMul, Nat.reduceSub, reduceIte]
theorem r_impl_gathered0 {fl : Bool} (x : Cond) : ∀ k, 290271069732864 + 4 * x.w + 20 ≤ k → x.w ≤ 1099511627776 → ∀ out, Leaves out → out.length + x.w ≤ 2199023255552 →
    run E noExt k 63 [x.enc fl, .own 0 false 28 4 (out.map (Cond.enc true))] [] = some (.own 0 false 28 4 ((gather x out).map (Cond.enc true)), []) := by
  induction x using Cond.induct with
  | h x ih =>
    intro k hk hx out ho hlen
    have hfa := gathers_facts x.args
    have hal := addLeaf_len x out
    have hav := addLeaf_leaves (x := x) ho
    rw [x.w_eq] at hk hx hlen
    have hs1 := wl_length Cond.w x.args
    have hs : x.args.length ≤ 140737488355328 := by omega
    have cc := fun c hc => ih c hc (k - 1) (by have := wl_mem (w := Cond.w) hc; omega) (by have := wl_mem (w := Cond.w) hc; omega)
    have c1 := r_impl_InRange (k - 1) (by omega) x.op 2 6
    have c2 := r_slices_ContainsFunc_Cond (fl := true) (k - 1) out (by omega) (by omega) 95 [.cptr [.int .i64 x.op, .int .i64 x.a, .int .i64 x.b, .sl fl (x.args.map (Cond.enc fl))]] (plain_of rfl) (fun own => decide (own = x)) (fun c hc => by
      have c0 := r_impl_EqualConds (fl := true) (gl := fl) (k - 4) (by omega) c x (by rw [c.w_eq, ho c hc]; simp [wl])
      rw [show k - 1 - 2 = (k - 4) + 1 by omega]
      rw [run_succ rfl rfl, body_eq (nt := 7) (fn := Go.Proofs.Tryz.f95) (by kernel_rfl) rfl rfl rfl rfl rfl rfl rfl rfl]
      simp -implicitDefEqProofs only [enc_Cond] at c0
      simp -implicitDefEqProofs only [QS, QN, ZRS, ↓ZDS, enc_Cond, Go.Proofs.Tryz.f95, c0, SN, evCutRow, Int.reduceToNat, id_eq, Int.reduceBEq, Int.reduceLE, Int.reduceLT, SS, one_ne2, num_ne2, TIS, MDS, AV.cells, AV.isCell, Value.cells, Nat.reduceAdd, Nat.reduceEqDiff, Nat.reduceLT, Nat.reduceLeDiff, Nat.reduceMul, Nat.reduceSub, reduceIte])
    have c3 := fun h => r_impl_copyLeaf (fl := fl) (k - 1) (by omega) x (leaf_nil h)
    have hm1 : (out.length + 1) * 48 ≤ 140737488355328 := by omega
    have hm2 : out.length + 1 ≤ 9223372036854775807 := by omega
    have hpl : plains [(AV.agg [.int .i64 x.op, .int .i64 x.a, .int .i64 x.b, .sl true []])] = true := rfl
    have hsc := scals_leaves ho
    rw [gather_eq]
    obtain ⟨k, rfl⟩ : ∃ j, k = j + 1 := ⟨k - 1, by omega⟩
    rw [run_succ rfl rfl, body_eq (nt := 39) (fn := Go.Proofs.Tryz.f63) (by kernel_rfl) rfl rfl rfl rfl rfl rfl rfl rfl]
    simp -implicitDefEqProofs only [Nat.add_sub_cancel, enc_Cond] at c1 c2 c3 cc
    clear ih
    have hA : (addLeaf x out).map (Cond.enc true) = if (inR x.op 2 6 && ((x.args.length : Int) == 0) && !(out.any fun own => decide (own = x))) = true then out.map (Cond.enc true) ++ [.agg [.int .i64 x.op, .int .i64 x.a, .int .i64 x.b, .sl true []]] else out.map (Cond.enc true) := by
      unfold addLeaf
      split
      · rename_i h
        simp -implicitDefEqProofs only [Bool.and_eq_true] at h
        have hL := leaf_nil h.1.2
        rw [List.map_append, List.map_cons, List.map_nil, enc_Cond, hL]
        rfl
      · rfl
    generalize addLeaf x out = b0 at *
    generalize out.any (fun own => decide (own = x)) = an at *
    generalize inR x.op 2 6 = io at *
    generalize hLL : ((x.args.length : Int) == 0) = L0 at *
    have hwd := fun i => (wl_append Cond.w (x.args.take i) (x.args.drop i)).symm
    simp -implicitDefEqProofs only [List.take_append_drop] at hwd
    cases io <;> cases L0 <;> cases an
    all_goals
      simp -implicitDefEqProofs only [Bool.and_self, Bool.and_true, Bool.and_false, Bool.not_true, Bool.not_false, Bool.false_and, Bool.true_and, Bool.false_eq_true, if_false, if_true] at hA
      simp -implicitDefEqProofs only [QS, QN, QO, ZRS, ↓ZDS, ZRO, ↓ZDO, Go.Proofs.Tryz.f63, enc_Cond, hLL, c1, c2, c3, hm1, hm2, hpl, hsc, not_false_eq_true, ifEv_bool, gate_bool, pick_bool, if_false, if_true, SO, SH, evAppend, rowOf, noref, isRef, isPtr, noPtr, isBad, AV.isUndef, dedup, nodupB, idx, AV.rows, AV.rowss, AV.mapO, AV.mapOs, SN, evCutRow, Int.reduceToNat, id_eq, Int.reduceBEq, Int.reduceLE, Int.reduceLT, SS, one_ne2, num_ne2, TIS, MDS, AV.cells, AV.isCell, Value.cells, Nat.reduceAdd, Nat.reduceEqDiff, Nat.reduceLT, Nat.reduceLeDiff, Nat.reduceMul, Nat.reduceSub, reduceIte]
      rw [ev_loop]
      refine Eq.trans (loop_list (Q := fun (g : List Cond) z => thenEnd E.P _ _ 0 (thenEv E _ _ _ _ _ (outOf 0 z)) = some (.own 0 false 28 4 (g.map (Cond.enc true)), [])) x.args (gStep gather) id
        (fun i b => { sl := [(1, .own 0 false 28 4 (b.map (Cond.enc true))), (28, .sl fl (x.args.map (Cond.enc fl))), (29, .int .i64 (x.args.length : Nat)), (30, .int .i64 (i : Nat))], bx := [], nx := 1, nt := 39 })
        (fun i b => Leaves b ∧ b.length + wl Cond.w (x.args.drop i) ≤ out.length + 1 + wl Cond.w x.args) b0 ?_ ?_ (by omega) ⟨hav, by rw [List.drop_zero]; omega⟩ ?_) ?_
      · intro b _
        simp -implicitDefEqProofs only [QS, QN, QG, QO, ZRS, ↓ZDS, ZRG, ↓ZDG, ZRO, ↓ZDO, finish_rg, SO, SH, evAppend, rowOf, noref, isRef, isPtr, noPtr, isBad, AV.isUndef, leaf_some, isNormal, ifEv_bool, gate_bool, gateP_bool, gateQ_bool, pick_bool, SN, evCutRow, Int.reduceToNat, id_eq, Int.reduceBEq, Int.reduceLE, Int.reduceLT, SS, one_ne2, num_ne2, TIS, MDS, AV.cells, AV.isCell, Value.cells, Nat.reduceAdd, Nat.reduceEqDiff, Nat.reduceLT, Nat.reduceLeDiff, Nat.reduceMul, Nat.reduceSub, reduceIte]
        repeat' (split <;> (rename_i h; (try simp -implicitDefEqProofs only [Bool.not_eq_true', Bool.not_eq_false', decide_eq_true_eq, decide_eq_false_iff_not] at h); (try simp -implicitDefEqProofs only [QS, QN, QG, QO, ZRS, ↓ZDS, ZRG, ↓ZDG, ZRO, ↓ZDO, *, finish_rg, SO, SH, evAppend, rowOf, noref, isRef, isPtr, noPtr, isBad, AV.isUndef, leaf_some, isNormal, ifEv_bool, gate_bool, gateP_bool, gateQ_bool, pick_bool, SN, evCutRow, Int.reduceToNat, id_eq, Int.reduceBEq, Int.reduceLE, Int.reduceLT, SS, one_ne2, num_ne2, TIS, MDS, AV.cells, AV.isCell, Value.cells, Nat.reduceAdd, Nat.reduceEqDiff, Nat.reduceLT, Nat.reduceLeDiff, Nat.reduceMul, Nat.reduceSub, reduceIte])))
      · intro pre c r b hs' ⟨hb1, hb2⟩
        have hx := (at_row hs' hs).1; have hc := (at_row hs' hs).2.1; have hlt := (at_row hs' hs).2.2.1; have hw1 := (at_row hs' hs).2.2.2.1; have hl9 := (at_row hs' hs).2.2.2.2
        have hd : x.args.drop pre.length = c :: r := by rw [hs']; simp
        have hd1 : x.args.drop (pre.length + 1) = r := by rw [hs']; simp
        have hg1 := gather_facts c b
        rw [hd] at hb2
        simp -implicitDefEqProofs only [wl] at hb2
        have c4 := cc c hc b hb1 (by omega)
        have hI : Leaves (gather c b) ∧ (gather c b).length + wl Cond.w (x.args.drop (pre.length + 1)) ≤ out.length + 1 + wl Cond.w x.args := by
          rw [hd1]
          exact ⟨hg1.1 hb1, by have := hg1.2; omega⟩
        clear hs' hd hd1
        have hs1 := scals_leaves hb1
        have hs2 := scals_leaves hI.1
        simp -implicitDefEqProofs only [QS, QN, QG, QO, ZRS, ↓ZDS, ZRG, ↓ZDG, ZRO, ↓ZDO, enc_Cond, hx, hlt, hw1, c4, hs1, hs2, gStep, evCall_rg, look_cons, reduceCtorEq, evCall_mutOwn, evCall_mutAgg, evGive, giveRows, ioBoxes, mutArgs, roArgs, handArg, mutSlots, isPtrB, pairs, pairss, back_nil, back_cons, backO, backE, setBoxes, importB, mode_mut, mode_give, mode_io, mode_ro, List.zip_cons_cons, List.zip_nil_left, List.zip_nil_right, ite_self, ite_true, ite_false, finish_give, finish_mut1, finish_io0, finish_io1, finish_io2, finish_io3, finish_ioc, finI, finC, finW_ptr, SO, SH, evAppend, rowOf, noref, isRef, isPtr, noPtr, isBad, AV.isUndef, keep_63_4, leaf_some, isNormal, ifEv_bool, gate_bool, gateP_bool, gateQ_bool, pick_bool, SN, evCutRow, Int.reduceToNat, id_eq, Int.reduceBEq, Int.reduceLE, Int.reduceLT, SS, one_ne2, num_ne2, TIS, MDS, AV.cells, AV.isCell, Value.cells, Nat.reduceAdd, Nat.reduceEqDiff, Nat.reduceLT, Nat.reduceLeDiff, Nat.reduceMul, Nat.reduceSub, reduceIte]
        repeat' (split <;> (rename_i h; (try simp -implicitDefEqProofs only [Bool.not_eq_true', Bool.not_eq_false', decide_eq_true_eq, decide_eq_false_iff_not] at h); (try simp -implicitDefEqProofs only [QS, QN, QG, QO, ZRS, ↓ZDS, ZRG, ↓ZDG, ZRO, ↓ZDO, *, enc_Cond, hx, hlt, hw1, c4, hs1, hs2, gStep, evCall_rg, look_cons, reduceCtorEq, evCall_mutOwn, evCall_mutAgg, evGive, giveRows, ioBoxes, mutArgs, roArgs, handArg, mutSlots, isPtrB, pairs, pairss, back_nil, back_cons, backO, backE, setBoxes, importB, mode_mut, mode_give, mode_io, mode_ro, List.zip_cons_cons, List.zip_nil_left, List.zip_nil_right, ite_self, ite_true, ite_false, finish_give, finish_mut1, finish_io0, finish_io1, finish_io2, finish_io3, finish_ioc, finI, finC, finW_ptr, SO, SH, evAppend, rowOf, noref, isRef, isPtr, noPtr, isBad, AV.isUndef, keep_63_4, leaf_some, isNormal, ifEv_bool, gate_bool, gateP_bool, gateQ_bool, pick_bool, SN, evCutRow, Int.reduceToNat, id_eq, Int.reduceBEq, Int.reduceLE, Int.reduceLT, SS, one_ne2, num_ne2, TIS, MDS, AV.cells, AV.isCell, Value.cells, Nat.reduceAdd, Nat.reduceEqDiff, Nat.reduceLT, Nat.reduceLeDiff, Nat.reduceMul, Nat.reduceSub, reduceIte])))
        exact hI
      · simp -implicitDefEqProofs only [firstRegion]
        rw [keep_63_4]
        simp -implicitDefEqProofs only [QS, QN, QG, QO, ZRS, ↓ZDS, ZRG, ↓ZDG, ZRO, ↓ZDO, hA, SN, evCutRow, Int.reduceToNat, id_eq, Int.reduceBEq, Int.reduceLE, Int.reduceLT, SO, SH, evAppend, rowOf, noref, isRef, isPtr, noPtr, isBad, AV.isUndef, SS, one_ne2, num_ne2, TIS, MDS, AV.cells, AV.isCell, Value.cells, Nat.reduceAdd, Nat.reduceEqDiff, Nat.reduceLT, Nat.reduceLeDiff, Nat.reduceMul, Nat.reduceSub, reduceIte]
      · rw [gLoop]
theorem r_impl_LeavesOf {fl : Bool} (k : Nat) (x : Cond) (hk : 290271069732864 + 4 * x.w + 21 ≤ k) (hx : x.w ≤ 1099511627776) :
    run E noExt k 37 [x.enc fl] [] = some (.own 0 false 28 4 ((gather x []).map (Cond.enc true)), []) := by
  have c1 := r_impl_gathered0 (fl := fl) x (k - 1) (by omega) hx [] (fun _ h => by simp at h) (by simp -implicitDefEqProofs only [List.length_nil]; omega)
  have hsc := scals_leaves ((gather_facts x []).1 (fun _ h => by simp at h))
  obtain ⟨k, rfl⟩ : ∃ j, k = j + 1 := ⟨k - 1, by omega⟩
  rw [run_succ rfl rfl, body_eq (nt := 6) (fn := Go.Proofs.Tryz.f37) (by kernel_rfl) rfl rfl rfl rfl rfl rfl rfl rfl]
  simp -implicitDefEqProofs only [Nat.add_sub_cancel, enc_Cond, List.map_nil] at c1
  simp -implicitDefEqProofs only [QS, QN, QG, QO, ZRS, ↓ZDS, ZRG, ↓ZDG, ZRO, ↓ZDO, Go.Proofs.Tryz.f37, enc_Cond, c1, hsc, evCall_rg, look_cons, reduceCtorEq, evCall_mutOwn, evCall_mutAgg, evGive, giveRows, ioBoxes, mutArgs, roArgs, handArg, mutSlots, isPtrB, pairs, pairss, back_nil, back_cons, backO, backE, setBoxes, importB, mode_mut, mode_give, mode_io, mode_ro, List.zip_cons_cons, List.zip_nil_left, List.zip_nil_right, ite_self, ite_true, ite_false, finish_give, finish_mut1, finish_io0, finish_io1, finish_io2, finish_io3, finish_ioc, finI, finC, finW_ptr, SO, SH, evAppend, rowOf, noref, isRef, isPtr, noPtr, isBad, AV.isUndef, SN, evCutRow, Int.reduceToNat, id_eq, Int.reduceBEq, Int.reduceLE, Int.reduceLT, SS, one_ne2, num_ne2, TIS, MDS, AV.cells, AV.isCell, Value.cells, Nat.reduceAdd, Nat.reduceEqDiff, Nat.reduceLT, Nat.reduceLeDiff, Nat.reduceMul, Nat.reduceSub, reduceIte]
end Go.Proofs.YtigfcbcnfppmcaaGreat.Flat
namespace Go.Proofs.YtigfcbcnfppmcaaGreat.Flat
theorem leaves_nil : Leaves [] := fun _ h => by simp at h
end Go.Proofs.YtigfcbcnfppmcaaGreat.Flat







namespace Go.Proofs.YtigfcbcnfppmcaaGreat.Flat
/-! ### leaves, gathered in whatever order -/
noncomputable def addC (out : List Cond) (c : Cond) : List Cond := if (out.any fun own => decide (own = c)) = true then out else out ++ [c]
def isLf (x : Cond) : Bool := inR x.op 2 6 && ((x.args.length : Int) == 0)
mutual
noncomputable def lv : Cond → List Cond
  | ⟨o, a, b, s⟩ => (if isLf ⟨o, a, b, s⟩ = true then [⟨o, a, b, s⟩] else []) ++ lvs s
noncomputable def lvs : List Cond → List Cond
  | [] => []
  | c :: r => lv c ++ lvs r
end
theorem lv_eq (x : Cond) : lv x = (if isLf x = true then [x] else []) ++ lvs x.args := by
  cases x
  simp -implicitDefEqProofs only [lv]
theorem addLeaf_eq (x : Cond) (out : List Cond) : addLeaf x out = (if isLf x = true then [x] else []).foldl addC out := by
  unfold addLeaf isLf
  cases h : (inR x.op 2 6 && ((x.args.length : Int) == 0))
  · simp
  · simp -implicitDefEqProofs only [Bool.true_and, if_true, List.foldl_cons, List.foldl_nil, addC]
    cases out.any fun own => decide (own = x) <;> simp
theorem gather_foldl (x : Cond) : ∀ out, gather x out = (lv x).foldl addC out := by
  induction x using Cond.induct with
  | h x ih =>
    intro out
    have h : ∀ (s : List Cond), (∀ d ∈ s, d ∈ x.args) → ∀ out, gathers s out = (lvs s).foldl addC out := by
      intro s
      induction s with
      | nil => intro _ out; simp [gathers, lvs]
      | cons c r ihr =>
        intro hs out
        simp -implicitDefEqProofs only [gathers, lvs, List.foldl_append]
        rw [ih c (hs c (by simp)), ihr (fun d hd => hs d (List.mem_cons_of_mem _ hd))]
    rw [gather_eq, lv_eq, List.foldl_append, h x.args (fun d hd => hd), addLeaf_eq]
theorem addC_mem {out : List Cond} {c d : Cond} (h : d ∈ out) : d ∈ addC out c := by
  unfold addC
  split
  · exact h
  · exact List.mem_append_left _ h
theorem foldl_mem (l : List Cond) : ∀ (out : List Cond) (d : Cond), d ∈ out → d ∈ l.foldl addC out := by
  induction l with
  | nil => intro out d h; exact h
  | cons c r ih => intro out d h; exact ih _ _ (addC_mem h)
theorem mem_foldl (l : List Cond) : ∀ (out : List Cond) (d : Cond), d ∈ l → d ∈ l.foldl addC out := by
  induction l with
  | nil => intro out d h; simp at h
  | cons c r ih =>
    intro out d h
    rcases List.mem_cons.1 h with rfl | h
    · refine foldl_mem r _ _ ?_
      unfold addC
      split
      · rename_i h2
        obtain ⟨y, hy, he⟩ := List.any_eq_true.1 h2
        rw [decide_eq_true_eq] at he
        exact he ▸ hy
      · simp
    · exact ih _ _ h
end Go.Proofs.YtigfcbcnfppmcaaGreat.Flat
namespace Go.Proofs.YtigfcbcnfppmcaaGreat.Flat
noncomputable def hasRole (l : List Includes) (s : List Fact) (person role now age : Int) : Bool := (rolesOf l s person now age).any fun c => c == role
theorem rolesOf_len (l : List Includes) (s : List Fact) (person now age : Int) : (rolesOf l s person now age).length ≤ 6 := under_len _ 6
theorem any_swap (s : List Int) (x : Int) : (s.any fun y => decide (x = y)) = s.any fun c => c == x := by
  congr 1
  funext y
  rw [Bool.eq_iff_iff, decide_eq_true_iff, beq_iff_eq]
  exact eq_comm
theorem r_impl_HasRole {fl f2 : Bool} (k : Nat) (hk : 281474976710656 + 9 ≤ k) (l : List Includes) (hl : l.length ≤ 140737488355328) (s : List Fact) (hs : s.length ≤ 1099511627776) (person role now age : Int) :
    run E noExt k 77 [.sl fl (l.map (Includes.enc fl)), .sl f2 (s.map (Fact.enc f2)), .int .i64 person, .int .i64 role, .int .i64 now, .int .i64 age] [] = some (.bool (hasRole l s person role now age), []) := by
  have c1 := r_impl_RolesOf (fl := fl) (f2 := f2) (k - 1) (by omega) l hl s hs person now age
  have c2 := r_slices_Contains_Int (fl := true) (gl := true) (k - 1) (by omega) (rolesOf l s person now age) (by have := rolesOf_len l s person now age; omega) role
  rw [any_swap] at c2
  obtain ⟨k, rfl⟩ : ∃ j, k = j + 1 := ⟨k - 1, by omega⟩
  rw [run_succ rfl rfl, body_eq (nt := 21) (fn := Go.Proofs.Tryz.f77) (by kernel_rfl) rfl rfl rfl rfl rfl rfl rfl rfl]
  simp -implicitDefEqProofs only [Nat.add_sub_cancel] at c1 c2
  simp -implicitDefEqProofs only [QS, QN, QG, QO, ZRS, ↓ZDS, ZRG, ↓ZDG, ZRO, ↓ZDO, Go.Proofs.Tryz.f77, c1, c2, scals_ints, plains_ints, ifEv_bool, SN, evCutRow, Int.reduceToNat, id_eq, Int.reduceBEq, Int.reduceLE, Int.reduceLT, SO, SH, evAppend, rowOf, noref, isRef, isPtr, noPtr, isBad, AV.isUndef, SS, one_ne2, num_ne2, TIS, MDS, AV.cells, AV.isCell, Value.cells, Nat.reduceAdd, Nat.reduceEqDiff, Nat.reduceLT, Nat.reduceLeDiff, Nat.reduceMul, Nat.reduceSub, reduceIte]
  rfl
noncomputable def leafAt (l : List Includes) (s : List Fact) (q : Request) (x : Cond) : Bool :=
  if (x.op == 1) = true then true else if (x.op == 2) = true then hasRole l s q.person x.a q.now x.b else
  if (x.op == 3) = true then decide (0 ≤ findFact s 2 q.person q.device q.now x.b) else
  if (x.op == 4) = true then decide (x.a ≤ bestValue s 3 q.device q.now x.b) else
  if (x.op == 5) = true then decide (x.a ≤ bestValue s 4 q.program q.now x.b) else
  if (x.op == 6) = true then decide (q.now ≤ x.a) else false
theorem indexBy_none {α : Type} (p : α → Bool) : ∀ (s : List α) (i : Nat), indexBy p i s = -1 ∨ 0 ≤ indexBy p i s
  | [], i => .inl rfl
  | x :: r, i => by
    unfold indexBy
    split
    · right; omega
    · exact indexBy_none p r (i + 1)
theorem find_ne (s : List Fact) (a b c d e : Int) : (findFact s a b c d e != -1) = decide (0 ≤ findFact s a b c d e) := by
  unfold findFact
  rcases indexBy_none (factIs a b c d e) s 0 with h | h
  · rw [h]; rfl
  · rw [Bool.eq_iff_iff]; simp; omega
theorem r_impl_LeafHolds {fl f2 f3 f4 : Bool} (k : Nat) (hk : 281474976710656 + 11 ≤ k) (l : List Includes) (hl : l.length ≤ 140737488355328) (s : List Fact) (hs : s.length ≤ 1099511627776) (x : Cond) (q : Request) :
    run E noExt k 35 [.sl fl (l.map (Includes.enc fl)), .sl f2 (s.map (Fact.enc f2)), x.enc f3, q.enc f4] [] = some (.bool (leafAt l s q x), []) := by
  have c1 := r_impl_HasRole (fl := fl) (f2 := f2) (k - 1) (by omega) l hl s hs q.person x.a q.now x.b
  have c2 := r_impl_FindFact (fl := f2) (k - 1) (by omega) s (by omega) 2 q.person q.device q.now x.b
  have c3 := r_impl_BestValue (fl := f2) (k - 1) (by omega) s (by omega) 3 q.device q.now x.b
  have c4 := r_impl_BestValue (fl := f2) (k - 1) (by omega) s (by omega) 4 q.program q.now x.b
  have hne := find_ne s 2 q.person q.device q.now x.b
  generalize hb : decide (0 ≤ findFact s 2 q.person q.device q.now x.b) = b at hne
  obtain ⟨k, rfl⟩ : ∃ j, k = j + 1 := ⟨k - 1, by omega⟩
  rw [run_succ rfl rfl, body_eq (nt := 72) (fn := Go.Proofs.Tryz.f35) (by kernel_rfl) rfl rfl rfl rfl rfl rfl rfl rfl]
  simp -implicitDefEqProofs only [Nat.add_sub_cancel] at c1 c2 c3 c4
  unfold leafAt
  rw [hb]
  cases e1 : (x.op == 1) with
  | true => simp -implicitDefEqProofs only [QS, QN, ZRS, ↓ZDS, Go.Proofs.Tryz.f35, enc_Cond, enc_Request, e1, ifEv_bool, reduceIte, SN, evCutRow, Int.reduceToNat, id_eq, Int.reduceBEq, Int.reduceLE, Int.reduceLT, SS, one_ne2, num_ne2, TIS, MDS, AV.cells, AV.isCell, Value.cells, Nat.reduceAdd, Nat.reduceEqDiff, Nat.reduceLT, Nat.reduceLeDiff, Nat.reduceMul, Nat.reduceSub]
  | false =>
    cases e2 : (x.op == 2) with
    | true => simp -implicitDefEqProofs only [QS, QN, ZRS, ↓ZDS, Go.Proofs.Tryz.f35, enc_Cond, enc_Request, e1, e2, c1, ifEv_bool, reduceIte, SN, evCutRow, Int.reduceToNat, id_eq, Int.reduceBEq, Int.reduceLE, Int.reduceLT, SS, one_ne2, num_ne2, TIS, MDS, AV.cells, AV.isCell, Value.cells, Nat.reduceAdd, Nat.reduceEqDiff, Nat.reduceLT, Nat.reduceLeDiff, Nat.reduceMul, Nat.reduceSub]
    | false =>
      cases e3 : (x.op == 3) with
      | true => simp -implicitDefEqProofs only [QS, QN, ZRS, ↓ZDS, Go.Proofs.Tryz.f35, enc_Cond, enc_Request, e1, e2, e3, c2, hne, ifEv_bool, reduceIte, SN, evCutRow, Int.reduceToNat, id_eq, Int.reduceBEq, Int.reduceLE, Int.reduceLT, SS, one_ne2, num_ne2, TIS, MDS, AV.cells, AV.isCell, Value.cells, Nat.reduceAdd, Nat.reduceEqDiff, Nat.reduceLT, Nat.reduceLeDiff, Nat.reduceMul, Nat.reduceSub]
      | false =>
        cases e4 : (x.op == 4) with
        | true => simp -implicitDefEqProofs only [QS, QN, ZRS, ↓ZDS, Go.Proofs.Tryz.f35, enc_Cond, enc_Request, e1, e2, e3, e4, c3, ifEv_bool, GE.ge, reduceIte, plan_35_9, plan_35_11, SN, evCutRow, Int.reduceToNat, id_eq, Int.reduceBEq, Int.reduceLE, Int.reduceLT, SS, one_ne2, num_ne2, TIS, MDS, AV.cells, AV.isCell, Value.cells, Nat.reduceAdd, Nat.reduceEqDiff, Nat.reduceLT, Nat.reduceLeDiff, Nat.reduceMul, Nat.reduceSub]
        | false =>
          cases e5 : (x.op == 5) with
          | true => simp -implicitDefEqProofs only [QS, QN, ZRS, ↓ZDS, Go.Proofs.Tryz.f35, enc_Cond, enc_Request, e1, e2, e3, e4, e5, c4, ifEv_bool, GE.ge, reduceIte, plan_35_9, plan_35_11, SN, evCutRow, Int.reduceToNat, id_eq, Int.reduceBEq, Int.reduceLE, Int.reduceLT, SS, one_ne2, num_ne2, TIS, MDS, AV.cells, AV.isCell, Value.cells, Nat.reduceAdd, Nat.reduceEqDiff, Nat.reduceLT, Nat.reduceLeDiff, Nat.reduceMul, Nat.reduceSub]
          | false =>
            cases e6 : (x.op == 6) <;> simp -implicitDefEqProofs only [QS, QN, ZRS, ↓ZDS, Go.Proofs.Tryz.f35, enc_Cond, enc_Request, e1, e2, e3, e4, e5, e6, ifEv_bool, reduceIte, plan_35_9, plan_35_11, SN, evCutRow, Int.reduceToNat, id_eq, Int.reduceBEq, Int.reduceLE, Int.reduceLT, SS, one_ne2, num_ne2, TIS, MDS, AV.cells, AV.isCell, Value.cells, Nat.reduceAdd, Nat.reduceEqDiff, Nat.reduceLT, Nat.reduceLeDiff, Nat.reduceMul, Nat.reduceSub]
noncomputable def evalAt (l : List Includes) (s : List Fact) (q : Request) (x : Cond) : Bool := isCond x && x.eval (leafAt l s q)
theorem r_impl_EvalCond1 {fl f2 f3 f4 : Bool} (k : Nat) (hk : 281474976710656 + 12 ≤ k) (l : List Includes) (hl : l.length ≤ 140737488355328) (s : List Fact) (hs : s.length ≤ 1099511627776) (x : Cond) (q : Request) :
    run E noExt k 34 [x.enc f3, .cptr [.sl fl (l.map (Includes.enc fl))], .cptr [.sl f2 (s.map (Fact.enc f2))], .cptr [.int .i64 q.person, .int .i64 q.device, .int .i64 q.program, .int .i64 q.action, .int .i64 q.object, .int .i64 q.now]] [] = some (.bool (leafAt l s q x), []) := by
  have c1 := r_impl_LeafHolds (fl := fl) (f2 := f2) (f3 := f3) (f4 := f4) (k - 1) (by omega) l hl s hs x q
  obtain ⟨k, rfl⟩ : ∃ j, k = j + 1 := ⟨k - 1, by omega⟩
  rw [run_succ rfl rfl, body_eq (nt := 11) (fn := Go.Proofs.Tryz.f34) (by kernel_rfl) rfl rfl rfl rfl rfl rfl rfl rfl]
  simp -implicitDefEqProofs only [Nat.add_sub_cancel, enc_Cond, enc_Request] at c1
  simp -implicitDefEqProofs only [QS, QN, ZRS, ↓ZDS, Go.Proofs.Tryz.f34, enc_Cond, c1, SN, evCutRow, Int.reduceToNat, id_eq, Int.reduceBEq, Int.reduceLE, Int.reduceLT, SS, one_ne2, num_ne2, TIS, MDS, AV.cells, AV.isCell, Value.cells, Nat.reduceAdd, Nat.reduceEqDiff, Nat.reduceLT, Nat.reduceLeDiff, Nat.reduceMul, Nat.reduceSub, reduceIte]
theorem r_impl_EvalCond {fl f2 f3 f4 : Bool} (k : Nat) (hk : 884940186000000 + 7 ≤ k) (l : List Includes) (hl : l.length ≤ 140737488355328) (s : List Fact) (hs : s.length ≤ 1099511627776) (x : Cond) (hx : x.w ≤ 1099511627776) (q : Request) :
    run E noExt k 8 [.sl fl (l.map (Includes.enc fl)), .sl f2 (s.map (Fact.enc f2)), x.enc f3, q.enc f4] [] = some (.bool (evalAt l s q x), []) := by
  have c1 := r_impl_IsCond (fl := f3) (k - 1) (by omega) x hx
  have c2 := r_impl_evalWith0 (fl := f3) 34 [.cptr [.sl fl (l.map (Includes.enc fl))], .cptr [.sl f2 (s.map (Fact.enc f2))], .cptr [.int .i64 q.person, .int .i64 q.device, .int .i64 q.program, .int .i64 q.action, .int .i64 q.object, .int .i64 q.now]] (plain_of rfl) (leafAt l s q) (281474976710656 + 12) (fun k hk c hc => r_impl_EvalCond1 (f3 := f3) (f4 := f4) k hk l hl s hs c q) x rfl (k - 1) (by omega)
  unfold evalAt
  obtain ⟨k, rfl⟩ : ∃ j, k = j + 1 := ⟨k - 1, by omega⟩
  rw [run_succ rfl rfl, body_eq (nt := 16) (fn := Go.Proofs.Tryz.f8) (by kernel_rfl) rfl rfl rfl rfl rfl rfl rfl rfl]
  simp -implicitDefEqProofs only [Nat.add_sub_cancel, enc_Cond] at c1 c2
  cases h : isCond x
  · simp -implicitDefEqProofs only [h] at c1
    simp -implicitDefEqProofs only [QS, QN, ZRS, ↓ZDS, Go.Proofs.Tryz.f8, enc_Cond, enc_Request, c1, ifEv_bool, gate_bool, gateP_bool, gateQ_bool, pick_bool, SN, evCutRow, Int.reduceToNat, id_eq, Int.reduceBEq, Int.reduceLE, Int.reduceLT, SS, one_ne2, num_ne2, TIS, MDS, AV.cells, AV.isCell, Value.cells, Nat.reduceAdd, Nat.reduceEqDiff, Nat.reduceLT, Nat.reduceLeDiff, Nat.reduceMul, Nat.reduceSub, reduceIte]
    repeat' (split <;> (rename_i h; (try simp -implicitDefEqProofs only [Bool.not_eq_true', Bool.not_eq_false', decide_eq_true_eq, decide_eq_false_iff_not] at h); (try simp -implicitDefEqProofs only [QS, QN, ZRS, ↓ZDS, *, enc_Cond, enc_Request, c1, ifEv_bool, gate_bool, gateP_bool, gateQ_bool, pick_bool, SN, evCutRow, Int.reduceToNat, id_eq, Int.reduceBEq, Int.reduceLE, Int.reduceLT, SS, one_ne2, num_ne2, TIS, MDS, AV.cells, AV.isCell, Value.cells, Nat.reduceAdd, Nat.reduceEqDiff, Nat.reduceLT, Nat.reduceLeDiff, Nat.reduceMul, Nat.reduceSub, reduceIte])))
  · have hv : x.valid = true := by
      unfold isCond at h
      simp -implicitDefEqProofs only [Bool.and_eq_true] at h
      exact h.2
    have c3 := c2 hv hx
    simp -implicitDefEqProofs only [h] at c1
    simp -implicitDefEqProofs only [QS, QN, ZRS, ↓ZDS, Go.Proofs.Tryz.f8, enc_Cond, enc_Request, c1, c3, ifEv_bool, gate_bool, gateP_bool, gateQ_bool, pick_bool, SN, evCutRow, Int.reduceToNat, id_eq, Int.reduceBEq, Int.reduceLE, Int.reduceLT, SS, one_ne2, num_ne2, TIS, MDS, AV.cells, AV.isCell, Value.cells, Nat.reduceAdd, Nat.reduceEqDiff, Nat.reduceLT, Nat.reduceLeDiff, Nat.reduceMul, Nat.reduceSub, reduceIte]
    repeat' (split <;> (rename_i h; (try simp -implicitDefEqProofs only [Bool.not_eq_true', Bool.not_eq_false', decide_eq_true_eq, decide_eq_false_iff_not] at h); (try simp -implicitDefEqProofs only [QS, QN, ZRS, ↓ZDS, *, enc_Cond, enc_Request, c1, c3, ifEv_bool, gate_bool, gateP_bool, gateQ_bool, pick_bool, SN, evCutRow, Int.reduceToNat, id_eq, Int.reduceBEq, Int.reduceLE, Int.reduceLT, SS, one_ne2, num_ne2, TIS, MDS, AV.cells, AV.isCell, Value.cells, Nat.reduceAdd, Nat.reduceEqDiff, Nat.reduceLT, Nat.reduceLeDiff, Nat.reduceMul, Nat.reduceSub, reduceIte])))
end Go.Proofs.YtigfcbcnfppmcaaGreat.Flat
namespace Go.Proofs.YtigfcbcnfppmcaaGreat.Flat
def isRequest (q : Request) : Bool := hasKind q.person 1 && (hasKind q.device 2 && (hasKind q.program 3 && (hasKind q.object 4 && (inR q.action 0 5 && isT q.now))))
theorem r_impl_IsRequest {fl : Bool} (k : Nat) (hk : 281474976710656 + 5 ≤ k) (q : Request) : run E noExt k 15 [q.enc fl] [] = some (.bool (isRequest q), []) := by
  obtain ⟨k, rfl⟩ : ∃ j, k = j + 1 := ⟨k - 1, by omega⟩
  rw [run_succ rfl rfl, body_eq (nt := 31) (fn := Go.Proofs.Tryz.f15) (by kernel_rfl) rfl rfl rfl rfl rfl rfl rfl rfl]
  have c_impl_InRange := r_impl_InRange k (by omega)
  have c_impl_HasKind := r_impl_HasKind k (by omega)
  have c_impl_IsTime := r_impl_IsTime k (by omega)
  simp -implicitDefEqProofs only [QS, QN, ZRS, ↓ZDS, Go.Proofs.Tryz.f15, c_impl_InRange, c_impl_HasKind, c_impl_IsTime, enc_Request, ifEv_bool, gate_bool, gateP_bool, gateQ_bool, pick_bool, SN, evCutRow, Int.reduceToNat, id_eq, Int.reduceBEq, Int.reduceLE, Int.reduceLT, SS, one_ne2, num_ne2, TIS, MDS, AV.cells, AV.isCell, Value.cells, Nat.reduceAdd, Nat.reduceEqDiff, Nat.reduceLT, Nat.reduceLeDiff, Nat.reduceMul, Nat.reduceSub, reduceIte]
  repeat' (split <;> (rename_i h; (try simp -implicitDefEqProofs only [Bool.not_eq_true', Bool.not_eq_false', decide_eq_true_eq, decide_eq_false_iff_not] at h); (try simp -implicitDefEqProofs only [QS, QN, ZRS, ↓ZDS, *, c_impl_InRange, c_impl_HasKind, c_impl_IsTime, enc_Request, ifEv_bool, gate_bool, gateP_bool, gateQ_bool, pick_bool, SN, evCutRow, Int.reduceToNat, id_eq, Int.reduceBEq, Int.reduceLE, Int.reduceLT, SS, one_ne2, num_ne2, TIS, MDS, AV.cells, AV.isCell, Value.cells, Nat.reduceAdd, Nat.reduceEqDiff, Nat.reduceLT, Nat.reduceLeDiff, Nat.reduceMul, Nat.reduceSub, reduceIte])))
  all_goals simp -implicitDefEqProofs only [isRequest, *, Bool.true_and, Bool.false_and, Bool.and_true, Bool.and_false]
end Go.Proofs.YtigfcbcnfppmcaaGreat.Flat

namespace Go.Proofs.YtigfcbcnfppmcaaGreat.Flat
theorem valid_leaf {c : Cond} (h : c.valid = true) (h7 : c.op ≠ 7) (h8 : c.op ≠ 8) (h9 : c.op ≠ 9) : c.op = 1 ∨ isLf c = true := by
  rw [c.valid_eq] at h
  simp -implicitDefEqProofs only [nodeOk, Bool.and_eq_true, beq_iff_eq, List.all_eq_true] at h
  have h1 := h.1.1.1
  have ar : arity c.op = if (c.op == 7) = true then 1 else if (c.op == 8) = true then 2 else if (c.op == 9) = true then 2 else if inR c.op 1 6 = true then 0 else -1 := rfl
  have e7 : (c.op == 7) = false := by simpa using h7
  have e8 : (c.op == 8) = false := by simpa using h8
  have e9 : (c.op == 9) = false := by simpa using h9
  rw [ar, e7, e8, e9] at h1
  simp -implicitDefEqProofs only [Bool.false_eq_true, if_false] at h1
  by_cases h0 : inR c.op 1 6 = true
  · rw [if_pos h0] at h1
    by_cases h2 : c.op = 1
    · exact .inl h2
    · right
      unfold isLf
      simp -implicitDefEqProofs only [inR, Bool.and_eq_true, decide_eq_true_eq, beq_iff_eq] at h0 ⊢
      omega
  · rw [if_neg h0] at h1
    omega
theorem lvs_mem {s : List Cond} {d y : Cond} (hd : d ∈ s) (hy : y ∈ lv d) : y ∈ lvs s := by
  induction s with
  | nil => simp at hd
  | cons c r ih =>
    simp -implicitDefEqProofs only [lvs, List.mem_append]
    rcases List.mem_cons.1 hd with rfl | hd
    · exact .inl hy
    · exact .inr (ih hd)
theorem eval_leaves (p p' : Cond → Bool) (h1 : ∀ y : Cond, y.op = 1 → p y = p' y) : ∀ c : Cond, c.valid = true → (∀ y ∈ lv c, p y = p' y) → c.eval p = c.eval p' := by
  intro c
  induction c using Cond.induct with
  | h c ih =>
    intro hv hl
    have sub : ∀ d ∈ c.args, ∀ y ∈ lv d, p y = p' y := fun d hd y hy => hl y (by rw [lv_eq]; exact List.mem_append_right _ (lvs_mem hd hy))
    obtain ⟨v7, v8, v9⟩ := valid_args hv
    rw [Cond.eval_eq, Cond.eval_eq p']
    by_cases e7 : c.op = 7
    · obtain ⟨a, ha, hva⟩ := v7 e7
      have := ih a (by rw [ha]; simp) hva (sub a (by rw [ha]; simp))
      simp [e7, ha, this]
    · by_cases e8 : c.op = 8
      · obtain ⟨a, b, hab, hva, hvb⟩ := v8 e8
        have i1 := ih a (by rw [hab]; simp) hva (sub a (by rw [hab]; simp))
        have i2 := ih b (by rw [hab]; simp) hvb (sub b (by rw [hab]; simp))
        simp [e8, hab, i1, i2]
      · by_cases e9 : c.op = 9
        · obtain ⟨a, b, hab, hva, hvb⟩ := v9 e9
          have i1 := ih a (by rw [hab]; simp) hva (sub a (by rw [hab]; simp))
          have i2 := ih b (by rw [hab]; simp) hvb (sub b (by rw [hab]; simp))
          simp [e9, hab, i1, i2]
        · have b7 : (c.op == 7) = false := by simpa using e7
          have b8 : (c.op == 8) = false := by simpa using e8
          have b9 : (c.op == 9) = false := by simpa using e9
          simp -implicitDefEqProofs only [b7, b8, b9, Bool.false_eq_true, if_false]
          rcases valid_leaf hv e7 e8 e9 with h | h
          · exact h1 c h
          · exact hl c (by rw [lv_eq, if_pos h]; simp)
end Go.Proofs.YtigfcbcnfppmcaaGreat.Flat
