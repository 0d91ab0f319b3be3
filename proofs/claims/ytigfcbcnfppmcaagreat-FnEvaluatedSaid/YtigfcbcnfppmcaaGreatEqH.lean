/-
Conditions, rules and policies that are right.
-/
import Derived.Test.YtigfcbcnfppmcaaGreatEqL
set_option linter.unusedVariables false
set_option linter.unusedSimpArgs false
set_option maxRecDepth 10000
namespace Go.Proofs.YtigfcbcnfppmcaaGreat.Flat
mutual
def Cond.valid : Cond → Bool
  | ⟨o, a, b, s⟩ => nodeOk o a b s.length && Cond.valids s
def Cond.valids : List Cond → Bool
  | [] => true
  | c :: r => c.valid && Cond.valids r
end
theorem valids_all (s : List Cond) : Cond.valids s = s.all Cond.valid := by
  induction s with
  | nil => rfl
  | cons c r ih => simp [Cond.valids, ih]
theorem Cond.valid_eq (c : Cond) : c.valid = (nodeOk c.op c.a c.b c.args.length && c.args.all Cond.valid) := by
  cases c
  simp -implicitDefEqProofs only [Cond.valid, valids_all]
def isCond (x : Cond) : Bool := decide (((x.w + 1 : Nat) : Int) ≤ 15) && x.valid
def sizeStep (_ : Nat) (c : Cond) (m : Int) : Sum Int Int := .inr (m + ((c.w + 1 : Nat) : Int))
theorem sizeLoop : ∀ (s : List Cond) (i : Nat) (m : Int), loopL sizeStep id i s m = m + (wl Cond.w s : Nat)
  | [], i, m => by simp [loopL, wl]
  | c :: r, i, m => by
    simp -implicitDefEqProofs only [loopL, sizeStep]
    rw [sizeLoop r]
    simp -implicitDefEqProofs only [wl]; omega
theorem r_impl_SizeOf0 {fl : Bool} (x : Cond) : ∀ (k : Nat), 281474976710656 + 4 * x.w + 1 ≤ k → x.w ≤ 1099511627776 → run E noExt k 42 [x.enc fl] [] = some (.int .i64 ((x.w + 1 : Nat) : Int), []) := by
  induction x using Cond.induct with
  | h x ih =>
    intro k hk hx
    rw [x.w_eq] at hk hx ⊢
    have hs1 := Nat.le_trans (wl_length _ x.args) hx
    have hs : x.args.length ≤ 140737488355328 := by omega
    have c1 : ∀ c ∈ x.args, run E noExt (k - 1) 42 [c.enc fl] [] = some (.int .i64 ((c.w + 1 : Nat) : Int), []) := fun c hc => ih c hc _ (by have := wl_mem (w := Cond.w) hc; omega) (by have := wl_mem (w := Cond.w) hc; omega)
    clear ih
    obtain ⟨k, rfl⟩ : ∃ j, k = j + 1 := ⟨k - 1, by omega⟩
    rw [run_succ rfl rfl, body_eq (nt := 19) (fn := Go.Proofs.Tryz.f42) (by kernel_rfl) rfl rfl rfl rfl rfl rfl rfl rfl]
    simp -implicitDefEqProofs only [Nat.add_sub_cancel] at c1
    simp -implicitDefEqProofs only [QS, QN, ZRS, ↓ZDS, Go.Proofs.Tryz.f42, enc_Cond, SN, evCutRow, Int.reduceToNat, id_eq, Int.reduceBEq, Int.reduceLE, Int.reduceLT, SS, one_ne2, num_ne2, TIS, MDS, AV.cells, AV.isCell, Value.cells, Nat.reduceAdd, Nat.reduceEqDiff, Nat.reduceLT, Nat.reduceLeDiff, Nat.reduceMul, Nat.reduceSub, reduceIte]
    rw [ev_loop]
    refine Eq.trans (loop_list (Q := fun g x => thenEnd E.P [] _ 0 (thenEv E _ _ _ _ _ (outOf 0 x)) = some (.int .i64 g, [])) (x.args) (sizeStep) (id)
      (fun i b => { sl := [(3, .int .i64 b), (7, .sl fl (x.args.map (Cond.enc fl))), (8, .int .i64 (x.args.length : Nat)), (9, .int .i64 (i : Nat))], bx := [], nx := 0, nt := 19 }) (fun i m => m = 1 + (wl Cond.w (x.args.take i) : Nat)) (1) ?_ ?_ (by first | omega | (simp; omega)) (by simp [wl]) ?_) ?_
    · intro b hb
      simp -implicitDefEqProofs only [QS, QN, QG, ZRS, ↓ZDS, ZRG, ↓ZDG, leaf_some, isNormal, ifEv_bool, gate_bool, gateP_bool, gateQ_bool, pick_bool, SN, evCutRow, Int.reduceToNat, id_eq, Int.reduceBEq, Int.reduceLE, Int.reduceLT, SS, one_ne2, num_ne2, TIS, MDS, AV.cells, AV.isCell, Value.cells, Nat.reduceAdd, Nat.reduceEqDiff, Nat.reduceLT, Nat.reduceLeDiff, Nat.reduceMul, Nat.reduceSub, reduceIte]
      repeat' (split <;> (rename_i h; (try simp -implicitDefEqProofs only [Bool.not_eq_true', Bool.not_eq_false', decide_eq_true_eq, decide_eq_false_iff_not] at h); (try simp -implicitDefEqProofs only [QS, QN, QG, ZRS, ↓ZDS, ZRG, ↓ZDG, *, leaf_some, isNormal, ifEv_bool, gate_bool, gateP_bool, gateQ_bool, pick_bool, SN, evCutRow, Int.reduceToNat, id_eq, Int.reduceBEq, Int.reduceLE, Int.reduceLT, SS, one_ne2, num_ne2, TIS, MDS, AV.cells, AV.isCell, Value.cells, Nat.reduceAdd, Nat.reduceEqDiff, Nat.reduceLT, Nat.reduceLeDiff, Nat.reduceMul, Nat.reduceSub, reduceIte])))
    · intro pre c r b hs' hb
      have hx := (at_row hs' hs).1; have hc := (at_row hs' hs).2.1; have hlt := (at_row hs' hs).2.2.1; have hw1 := (at_row hs' hs).2.2.2.1; have hl9 := (at_row hs' hs).2.2.2.2
      have hb2 : b + ((c.w + 1 : Nat) : Int) = 1 + (wl Cond.w (x.args.take (pre.length + 1)) : Nat) := by
        rw [hb, (take_row hs').1, (take_row hs').2, wl_append]
        simp -implicitDefEqProofs only [wl]; omega
      have hw2 : IntKind.i64.wrap (b + ((c.w + 1 : Nat) : Int)) = b + ((c.w + 1 : Nat) : Int) := by
        have e3 : wl Cond.w (x.args.take (pre.length + 1)) + wl Cond.w (x.args.drop (pre.length + 1)) = wl Cond.w x.args := by rw [← wl_append, List.take_append_drop]
        exact IntWalk.i64_in _ (by omega)
      clear hs'
      have c2 := c1 c hc
      simp -implicitDefEqProofs only [enc_Cond] at c2
      simp -implicitDefEqProofs only [QS, QN, QG, ZRS, ↓ZDS, ZRG, ↓ZDG, enc_Cond, hx, hlt, hw1, c2, hw2, sizeStep, keep_42_3, leaf_some, isNormal, ifEv_bool, gate_bool, gateP_bool, gateQ_bool, pick_bool, SN, evCutRow, Int.reduceToNat, id_eq, Int.reduceBEq, Int.reduceLE, Int.reduceLT, SS, one_ne2, num_ne2, TIS, MDS, AV.cells, AV.isCell, Value.cells, Nat.reduceAdd, Nat.reduceEqDiff, Nat.reduceLT, Nat.reduceLeDiff, Nat.reduceMul, Nat.reduceSub, reduceIte]
      repeat' (split <;> (rename_i h; (try simp -implicitDefEqProofs only [Bool.not_eq_true', Bool.not_eq_false', decide_eq_true_eq, decide_eq_false_iff_not] at h); (try simp -implicitDefEqProofs only [QS, QN, QG, ZRS, ↓ZDS, ZRG, ↓ZDG, *, enc_Cond, hx, hlt, hw1, c2, hw2, sizeStep, keep_42_3, leaf_some, isNormal, ifEv_bool, gate_bool, gateP_bool, gateQ_bool, pick_bool, SN, evCutRow, Int.reduceToNat, id_eq, Int.reduceBEq, Int.reduceLE, Int.reduceLT, SS, one_ne2, num_ne2, TIS, MDS, AV.cells, AV.isCell, Value.cells, Nat.reduceAdd, Nat.reduceEqDiff, Nat.reduceLT, Nat.reduceLeDiff, Nat.reduceMul, Nat.reduceSub, reduceIte])))
      exact hb2
    · simp -implicitDefEqProofs only [firstRegion]; rw [keep_42_3]; simp -implicitDefEqProofs only [QS, QN, QG, ZRS, ↓ZDS, ZRG, ↓ZDG, SN, evCutRow, Int.reduceToNat, id_eq, Int.reduceBEq, Int.reduceLE, Int.reduceLT, SS, one_ne2, num_ne2, TIS, MDS, AV.cells, AV.isCell, Value.cells, Nat.reduceAdd, Nat.reduceEqDiff, Nat.reduceLT, Nat.reduceLeDiff, Nat.reduceMul, Nat.reduceSub, reduceIte]; first | done | rfl
    · rw [sizeLoop]
      congr 3
      omega
theorem r_impl_areNodes0 {fl : Bool} (x : Cond) : ∀ (k : Nat), 281474976710656 + 4 * x.w + 5 ≤ k → x.w ≤ 1099511627776 → run E noExt k 43 [x.enc fl] [] = some (.bool x.valid, []) := by
  induction x using Cond.induct with
  | h x ih =>
    intro k hk hx
    rw [x.w_eq] at hk hx
    rw [x.valid_eq]
    have hs1 := Nat.le_trans (wl_length _ x.args) hx
    have c1 : ∀ c ∈ x.args, run E noExt (k - 4) 43 [c.enc fl] [] = some (.bool c.valid, []) := fun c hc => ih c hc _ (by have := wl_mem (w := Cond.w) hc; omega) (by have := wl_mem (w := Cond.w) hc; omega)
    clear ih
    have c3 : ∀ c ∈ x.args, run E noExt (k - 3) 84 [c.enc fl] [] = some (.bool (!c.valid), []) := by
      intro c hc
      have c2 := c1 c hc
      rw [show k - 3 = (k - 4) + 1 by omega]
      rw [run_succ rfl rfl, body_eq (nt := 6) (fn := Go.Proofs.Tryz.f84) (by kernel_rfl) rfl rfl rfl rfl rfl rfl rfl rfl]
      simp -implicitDefEqProofs only [enc_Cond] at c2 ⊢
      simp -implicitDefEqProofs only [QS, QN, ZRS, ↓ZDS, Go.Proofs.Tryz.f84, c2, ifEv_bool, gate_bool, gateP_bool, gateQ_bool, pick_bool, SN, evCutRow, Int.reduceToNat, id_eq, Int.reduceBEq, Int.reduceLE, Int.reduceLT, SS, one_ne2, num_ne2, TIS, MDS, AV.cells, AV.isCell, Value.cells, Nat.reduceAdd, Nat.reduceEqDiff, Nat.reduceLT, Nat.reduceLeDiff, Nat.reduceMul, Nat.reduceSub, reduceIte]
      repeat' (split <;> (rename_i h; (try simp -implicitDefEqProofs only [Bool.not_eq_true', Bool.not_eq_false', decide_eq_true_eq, decide_eq_false_iff_not] at h); (try simp -implicitDefEqProofs only [QS, QN, ZRS, ↓ZDS, *, c2, ifEv_bool, gate_bool, gateP_bool, gateQ_bool, pick_bool, SN, evCutRow, Int.reduceToNat, id_eq, Int.reduceBEq, Int.reduceLE, Int.reduceLT, SS, one_ne2, num_ne2, TIS, MDS, AV.cells, AV.isCell, Value.cells, Nat.reduceAdd, Nat.reduceEqDiff, Nat.reduceLT, Nat.reduceLeDiff, Nat.reduceMul, Nat.reduceSub, reduceIte])))
    have c0 := r_impl_isNode (k - 1) (by omega) x.op x.a x.b fl (x.args.map (Cond.enc fl))
    have c4 := r_slices_ContainsFunc_Cond (fl := fl) (k - 1) x.args (by omega) (by omega) 84 [] plain_nil (fun c => !c.valid) (by rw [show k - 1 - 2 = k - 3 by omega]; exact c3)
    obtain ⟨k, rfl⟩ : ∃ j, k = j + 1 := ⟨k - 1, by omega⟩
    rw [run_succ rfl rfl, body_eq (nt := 11) (fn := Go.Proofs.Tryz.f43) (by kernel_rfl) rfl rfl rfl rfl rfl rfl rfl rfl]
    simp -implicitDefEqProofs only [Nat.add_sub_cancel, List.length_map] at c4 c0
    have ha : x.args.all Cond.valid = !(x.args.any fun c => !c.valid) := List.all_eq_not_any_not
    simp -implicitDefEqProofs only [QS, QN, ZRS, ↓ZDS, Go.Proofs.Tryz.f43, enc_Cond, c0, c4, ha, ifEv_bool, gate_bool, gateP_bool, gateQ_bool, pick_bool, SN, evCutRow, Int.reduceToNat, id_eq, Int.reduceBEq, Int.reduceLE, Int.reduceLT, SS, one_ne2, num_ne2, TIS, MDS, AV.cells, AV.isCell, Value.cells, Nat.reduceAdd, Nat.reduceEqDiff, Nat.reduceLT, Nat.reduceLeDiff, Nat.reduceMul, Nat.reduceSub, reduceIte]
    repeat' (split <;> (rename_i h; (try simp -implicitDefEqProofs only [Bool.not_eq_true', Bool.not_eq_false', decide_eq_true_eq, decide_eq_false_iff_not] at h); (try simp -implicitDefEqProofs only [QS, QN, ZRS, ↓ZDS, *, enc_Cond, c0, c4, ha, ifEv_bool, gate_bool, gateP_bool, gateQ_bool, pick_bool, SN, evCutRow, Int.reduceToNat, id_eq, Int.reduceBEq, Int.reduceLE, Int.reduceLT, SS, one_ne2, num_ne2, TIS, MDS, AV.cells, AV.isCell, Value.cells, Nat.reduceAdd, Nat.reduceEqDiff, Nat.reduceLT, Nat.reduceLeDiff, Nat.reduceMul, Nat.reduceSub, reduceIte])))
theorem r_impl_IsCond {fl : Bool} (k : Nat) (hk : 290271069732864 + 6 ≤ k) (x : Cond) (hx : x.w ≤ 1099511627776) : run E noExt k 12 [x.enc fl] [] = some (.bool (isCond x), []) := by
  have c1 := r_impl_SizeOf0 (fl := fl) x (k - 1) (by omega) hx
  have c2 := r_impl_areNodes0 (fl := fl) x (k - 1) (by omega) hx
  obtain ⟨k, rfl⟩ : ∃ j, k = j + 1 := ⟨k - 1, by omega⟩
  rw [run_succ rfl rfl, body_eq (nt := 10) (fn := Go.Proofs.Tryz.f12) (by kernel_rfl) rfl rfl rfl rfl rfl rfl rfl rfl]
  simp -implicitDefEqProofs only [Nat.add_sub_cancel, enc_Cond] at c1 c2
  simp -implicitDefEqProofs only [QS, QN, ZRS, ↓ZDS, Go.Proofs.Tryz.f12, enc_Cond, c1, c2, isCond, ifEv_bool, gate_bool, pick_bool, SN, evCutRow, Int.reduceToNat, id_eq, Int.reduceBEq, Int.reduceLE, Int.reduceLT, SS, one_ne2, num_ne2, TIS, MDS, AV.cells, AV.isCell, Value.cells, Nat.reduceAdd, Nat.reduceEqDiff, Nat.reduceLT, Nat.reduceLeDiff, Nat.reduceMul, Nat.reduceSub, reduceIte]
  cases decide (((x.w + 1 : Nat) : Int) ≤ 15) <;> simp -implicitDefEqProofs only [QS, ZRS, ↓ZDS, c2, SS, one_ne2, num_ne2, TIS, MDS, AV.cells, AV.isCell, Value.cells, Nat.reduceAdd, Nat.reduceEqDiff, Nat.reduceLT, Nat.reduceLeDiff, Nat.reduceMul, Nat.reduceSub, reduceIte]
def isName (n : Int) : Bool := inR n 10 49
theorem r_spec_IsName (k : Nat) (hk : 281474976710656 + 2 ≤ k) (n : Int) : run E noExt k 91 [.int .i64 n] [] = some (.bool (isName n), []) := by
  obtain ⟨k, rfl⟩ : ∃ j, k = j + 1 := ⟨k - 1, by omega⟩
  rw [run_succ rfl rfl, body_eq (nt := 5) (fn := Go.Proofs.Tryz.f91) (by kernel_rfl) rfl rfl rfl rfl rfl rfl rfl rfl]
  have c_spec_l1In := r_spec_l1In k (by omega)
  simp -implicitDefEqProofs only [QS, QN, ZRS, ↓ZDS, Go.Proofs.Tryz.f91, c_spec_l1In, ifEv_bool, gate_bool, gateP_bool, gateQ_bool, pick_bool, SN, evCutRow, Int.reduceToNat, id_eq, Int.reduceBEq, Int.reduceLE, Int.reduceLT, SS, one_ne2, num_ne2, TIS, MDS, AV.cells, AV.isCell, Value.cells, Nat.reduceAdd, Nat.reduceEqDiff, Nat.reduceLT, Nat.reduceLeDiff, Nat.reduceMul, Nat.reduceSub, reduceIte]
  repeat' (split <;> (rename_i h; (try simp -implicitDefEqProofs only [Bool.not_eq_true', Bool.not_eq_false', decide_eq_true_eq, decide_eq_false_iff_not] at h); (try simp -implicitDefEqProofs only [QS, QN, ZRS, ↓ZDS, *, c_spec_l1In, ifEv_bool, gate_bool, gateP_bool, gateQ_bool, pick_bool, SN, evCutRow, Int.reduceToNat, id_eq, Int.reduceBEq, Int.reduceLE, Int.reduceLT, SS, one_ne2, num_ne2, TIS, MDS, AV.cells, AV.isCell, Value.cells, Nat.reduceAdd, Nat.reduceEqDiff, Nat.reduceLT, Nat.reduceLeDiff, Nat.reduceMul, Nat.reduceSub, reduceIte])))
  rfl
theorem r_impl_IsName (k : Nat) (hk : 281474976710656 + 2 ≤ k) (n : Int) : run E noExt k 85 [.int .i64 n] [] = some (.bool (isName n), []) := by
  obtain ⟨k, rfl⟩ : ∃ j, k = j + 1 := ⟨k - 1, by omega⟩
  rw [run_succ rfl rfl, body_eq (nt := 5) (fn := Go.Proofs.Tryz.f85) (by kernel_rfl) rfl rfl rfl rfl rfl rfl rfl rfl]
  have c_impl_InRange := r_impl_InRange k (by omega)
  simp -implicitDefEqProofs only [QS, QN, ZRS, ↓ZDS, Go.Proofs.Tryz.f85, c_impl_InRange, ifEv_bool, gate_bool, gateP_bool, gateQ_bool, pick_bool, SN, evCutRow, Int.reduceToNat, id_eq, Int.reduceBEq, Int.reduceLE, Int.reduceLT, SS, one_ne2, num_ne2, TIS, MDS, AV.cells, AV.isCell, Value.cells, Nat.reduceAdd, Nat.reduceEqDiff, Nat.reduceLT, Nat.reduceLeDiff, Nat.reduceMul, Nat.reduceSub, reduceIte]
  repeat' (split <;> (rename_i h; (try simp -implicitDefEqProofs only [Bool.not_eq_true', Bool.not_eq_false', decide_eq_true_eq, decide_eq_false_iff_not] at h); (try simp -implicitDefEqProofs only [QS, QN, ZRS, ↓ZDS, *, c_impl_InRange, ifEv_bool, gate_bool, gateP_bool, gateQ_bool, pick_bool, SN, evCutRow, Int.reduceToNat, id_eq, Int.reduceBEq, Int.reduceLE, Int.reduceLT, SS, one_ne2, num_ne2, TIS, MDS, AV.cells, AV.isCell, Value.cells, Nat.reduceAdd, Nat.reduceEqDiff, Nat.reduceLT, Nat.reduceLeDiff, Nat.reduceMul, Nat.reduceSub, reduceIte])))
  rfl
def kindOf (n : Int) : Int := if isName n = true then IntKind.i64.wrap (n.tdiv 10) else 0
def hasKind (n k : Int) : Bool := isName n && (IntKind.i64.wrap (n.tdiv 10) == k)
theorem r_impl_KindOf (k : Nat) (hk : 281474976710656 + 3 ≤ k) (n : Int) : run E noExt k 86 [.int .i64 n] [] = some (.int .i64 (kindOf n), []) := by
  obtain ⟨k, rfl⟩ : ∃ j, k = j + 1 := ⟨k - 1, by omega⟩
  rw [run_succ rfl rfl, body_eq (nt := 8) (fn := Go.Proofs.Tryz.f86) (by kernel_rfl) rfl rfl rfl rfl rfl rfl rfl rfl]
  have c_impl_IsName := r_impl_IsName k (by omega)
  simp -implicitDefEqProofs only [QS, QN, ZRS, ↓ZDS, Go.Proofs.Tryz.f86, c_impl_IsName, ifEv_bool, gate_bool, gateP_bool, gateQ_bool, pick_bool, SN, evCutRow, Int.reduceToNat, id_eq, Int.reduceBEq, Int.reduceLE, Int.reduceLT, SS, one_ne2, num_ne2, TIS, MDS, AV.cells, AV.isCell, Value.cells, Nat.reduceAdd, Nat.reduceEqDiff, Nat.reduceLT, Nat.reduceLeDiff, Nat.reduceMul, Nat.reduceSub, reduceIte]
  repeat' (split <;> (rename_i h; (try simp -implicitDefEqProofs only [Bool.not_eq_true', Bool.not_eq_false', decide_eq_true_eq, decide_eq_false_iff_not] at h); (try simp -implicitDefEqProofs only [QS, QN, ZRS, ↓ZDS, *, c_impl_IsName, ifEv_bool, gate_bool, gateP_bool, gateQ_bool, pick_bool, SN, evCutRow, Int.reduceToNat, id_eq, Int.reduceBEq, Int.reduceLE, Int.reduceLT, SS, one_ne2, num_ne2, TIS, MDS, AV.cells, AV.isCell, Value.cells, Nat.reduceAdd, Nat.reduceEqDiff, Nat.reduceLT, Nat.reduceLeDiff, Nat.reduceMul, Nat.reduceSub, reduceIte])))
  all_goals simp -implicitDefEqProofs only [kindOf, *, reduceIte, Bool.false_eq_true]
theorem r_spec_HasKind (k : Nat) (hk : 281474976710656 + 3 ≤ k) (n j : Int) : run E noExt k 56 [.int .i64 n, .int .i64 j] [] = some (.bool (hasKind n j), []) := by
  obtain ⟨k, rfl⟩ : ∃ j, k = j + 1 := ⟨k - 1, by omega⟩
  rw [run_succ rfl rfl, body_eq (nt := 13) (fn := Go.Proofs.Tryz.f56) (by kernel_rfl) rfl rfl rfl rfl rfl rfl rfl rfl]
  have c_spec_IsName := r_spec_IsName k (by omega)
  simp -implicitDefEqProofs only [QS, QN, ZRS, ↓ZDS, Go.Proofs.Tryz.f56, c_spec_IsName, ifEv_bool, gate_bool, gateP_bool, gateQ_bool, pick_bool, SN, evCutRow, Int.reduceToNat, id_eq, Int.reduceBEq, Int.reduceLE, Int.reduceLT, SS, one_ne2, num_ne2, TIS, MDS, AV.cells, AV.isCell, Value.cells, Nat.reduceAdd, Nat.reduceEqDiff, Nat.reduceLT, Nat.reduceLeDiff, Nat.reduceMul, Nat.reduceSub, reduceIte]
  repeat' (split <;> (rename_i h; (try simp -implicitDefEqProofs only [Bool.not_eq_true', Bool.not_eq_false', decide_eq_true_eq, decide_eq_false_iff_not] at h); (try simp -implicitDefEqProofs only [QS, QN, ZRS, ↓ZDS, *, c_spec_IsName, ifEv_bool, gate_bool, gateP_bool, gateQ_bool, pick_bool, SN, evCutRow, Int.reduceToNat, id_eq, Int.reduceBEq, Int.reduceLE, Int.reduceLT, SS, one_ne2, num_ne2, TIS, MDS, AV.cells, AV.isCell, Value.cells, Nat.reduceAdd, Nat.reduceEqDiff, Nat.reduceLT, Nat.reduceLeDiff, Nat.reduceMul, Nat.reduceSub, reduceIte])))
  all_goals simp -implicitDefEqProofs only [hasKind, *, Bool.true_and, Bool.false_and]
theorem r_impl_HasKind (k : Nat) (hk : 281474976710656 + 4 ≤ k) (n j : Int) : run E noExt k 46 [.int .i64 n, .int .i64 j] [] = some (.bool (hasKind n j), []) := by
  obtain ⟨k, rfl⟩ : ∃ j, k = j + 1 := ⟨k - 1, by omega⟩
  rw [run_succ rfl rfl, body_eq (nt := 13) (fn := Go.Proofs.Tryz.f46) (by kernel_rfl) rfl rfl rfl rfl rfl rfl rfl rfl]
  have c_impl_IsName := r_impl_IsName k (by omega)
  have c_impl_KindOf := r_impl_KindOf k (by omega)
  simp -implicitDefEqProofs only [QS, QN, ZRS, ↓ZDS, Go.Proofs.Tryz.f46, c_impl_IsName, c_impl_KindOf, ifEv_bool, gate_bool, gateP_bool, gateQ_bool, pick_bool, SN, evCutRow, Int.reduceToNat, id_eq, Int.reduceBEq, Int.reduceLE, Int.reduceLT, SS, one_ne2, num_ne2, TIS, MDS, AV.cells, AV.isCell, Value.cells, Nat.reduceAdd, Nat.reduceEqDiff, Nat.reduceLT, Nat.reduceLeDiff, Nat.reduceMul, Nat.reduceSub, reduceIte]
  repeat' (split <;> (rename_i h; (try simp -implicitDefEqProofs only [Bool.not_eq_true', Bool.not_eq_false', decide_eq_true_eq, decide_eq_false_iff_not] at h); (try simp -implicitDefEqProofs only [QS, QN, ZRS, ↓ZDS, *, c_impl_IsName, c_impl_KindOf, ifEv_bool, gate_bool, gateP_bool, gateQ_bool, pick_bool, SN, evCutRow, Int.reduceToNat, id_eq, Int.reduceBEq, Int.reduceLE, Int.reduceLT, SS, one_ne2, num_ne2, TIS, MDS, AV.cells, AV.isCell, Value.cells, Nat.reduceAdd, Nat.reduceEqDiff, Nat.reduceLT, Nat.reduceLeDiff, Nat.reduceMul, Nat.reduceSub, reduceIte])))
  all_goals simp -implicitDefEqProofs only [hasKind, kindOf, *, Bool.true_and, Bool.false_and, reduceIte, Bool.false_eq_true]
end Go.Proofs.YtigfcbcnfppmcaaGreat.Flat
namespace Go.Proofs.YtigfcbcnfppmcaaGreat.Flat
theorem r_impl_EqualConds0 {fl gl : Bool} (x : Cond) : ∀ (k : Nat), 281474976710656 + 4 * x.w + 2 ≤ k → x.w ≤ 1099511627776 → ∀ y, run E noExt k 96 [x.enc fl, y.enc gl] [] = some (.bool (decide (x = y)), []) := by
  induction x using Cond.induct with
  | h x ih =>
    intro k hk hx y
    rw [x.w_eq] at hk hx
    have hs1 := Nat.le_trans (wl_length _ x.args) hx
    have c1 := r_slices_EqualFunc_Cond (fl := fl) (gl := gl) (k - 1) x.args y.args (by omega) (by omega) 96 [] plain_nil (fun x y => decide (x = y)) (fun c hc d _ => ih c hc _ (by have := wl_mem (w := Cond.w) hc; omega) (by have := wl_mem (w := Cond.w) hc; omega) d)
    rw [eqBy_eq] at c1
    clear ih
    obtain ⟨k, rfl⟩ : ∃ j, k = j + 1 := ⟨k - 1, by omega⟩
    rw [run_succ rfl rfl, body_eq (nt := 31) (fn := Go.Proofs.Tryz.f96) (by kernel_rfl) rfl rfl rfl rfl rfl rfl rfl rfl]
    simp -implicitDefEqProofs only [Nat.add_sub_cancel] at c1
    rw [eqb_Cond]
    simp -implicitDefEqProofs only [QS, QN, ZRS, ↓ZDS, Go.Proofs.Tryz.f96, enc_Cond, bne, c1, ifEv_bool, gate_bool, gateP_bool, gateQ_bool, pick_bool, SN, evCutRow, Int.reduceToNat, id_eq, Int.reduceBEq, Int.reduceLE, Int.reduceLT, SS, one_ne2, num_ne2, TIS, MDS, AV.cells, AV.isCell, Value.cells, Nat.reduceAdd, Nat.reduceEqDiff, Nat.reduceLT, Nat.reduceLeDiff, Nat.reduceMul, Nat.reduceSub, reduceIte]
    repeat' (split <;> (rename_i h; (try simp -implicitDefEqProofs only [Bool.not_eq_true', Bool.not_eq_false', decide_eq_true_eq, decide_eq_false_iff_not] at h); (try simp -implicitDefEqProofs only [QS, QN, ZRS, ↓ZDS, *, enc_Cond, bne, c1, ifEv_bool, gate_bool, gateP_bool, gateQ_bool, pick_bool, SN, evCutRow, Int.reduceToNat, id_eq, Int.reduceBEq, Int.reduceLE, Int.reduceLT, SS, one_ne2, num_ne2, TIS, MDS, AV.cells, AV.isCell, Value.cells, Nat.reduceAdd, Nat.reduceEqDiff, Nat.reduceLT, Nat.reduceLeDiff, Nat.reduceMul, Nat.reduceSub, reduceIte])))
theorem r_impl_EqualConds {fl gl : Bool} (k : Nat) (hk : 290271069732864 + 2 ≤ k) (x y : Cond) (hx : x.w ≤ 1099511627776) : run E noExt k 96 [x.enc fl, y.enc gl] [] = some (.bool (decide (x = y)), []) := r_impl_EqualConds0 x k (by omega) hx y
end Go.Proofs.YtigfcbcnfppmcaaGreat.Flat

