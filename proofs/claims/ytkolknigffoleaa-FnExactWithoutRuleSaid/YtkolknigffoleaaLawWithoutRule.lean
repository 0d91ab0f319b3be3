/-
The law of WithoutRule: it answers true, whatever it is handed.
-/
import Derived.Test.YtkolknigffoleaaRows
import Derived.Test.YtkolknigffoleaaEqS
import Derived.Test.YtkolknigffoleaaEqH
import Derived.Test.YtkolknigffoleaaEqWU
import Derived.WalkKit
import Derived.ProofKit
import Derived.OpenShut
import Derived.ShutString
import Derived.ChangeOld
import Derived.Below
import Derived.SizedLaws
import Derived.Carry
set_option linter.unusedVariables false
set_option linter.unusedSimpArgs false
set_option maxRecDepth 10000
namespace Go.Proofs.Ytkolknigffoleaa.fnExactWithoutRule
section
open Flat
theorem reckoned0 (x0 : Policy) (x1 : Int) (h0 : x0.fits) (hsp : (0 ≤ x1 ∧ x1 < (x0.rules.length : Int)) ∧ dropI x0.rules x1 ≠ [] ∧ AV.scals ((dropI x0.rules x1).map (Rule.enc true)) = true) (k : Nat) (hk : 1152921504606846976 + 4 * ((x0.w)) + 60 ≤ k) : run E noExt k 3 [x0.enc false, .int .i64 x1] [] = some (.bool true, []) := by
  by_cases b0 : (((x0.w) : Nat) : Int) ≤ 1048576
  ·
    have s0 := r_laws_szPolicy (fl := false) (k - 1) x0 (by omega) h0 1048576 (by omega) (by omega)
    have z0 : left 1048576 (x0.w) = 1048576 - (((x0.w) : Nat) : Int) := (left_le (by omega)).trans (by omega)
    have d0 : decide ((1048576 : Int) - (((x0.w) : Nat) : Int) < 0) = false := decide_eq_false (by omega)
    rw [z0] at s0
    have t0 := r_laws_toPolicy (fl := false) (k - 1) (by omega) x0 (by omega)
    have e0 := r_laws_eqPolicy (fl := true) (gl := true) (k - 1) (by omega) x0 x0 (by omega)
    have f0 := r_impl_WithoutRuleT (k - 1) (by omega) x0 (by omega) x1
    have f1 := r_laws_markPolicy (k - 1) x0 (by omega) 1 (by have := sum_rule x0.rules; unfold Policy.w at *; omega)
    have f2 := (decide_eq_false (by omega) : decide ((1 : Int) + ((sumG ruleW x0.rules : Nat) : Int) < 0) = false)
    have hsS := hsp.2.2
    have hE := rowR_ne (id := 0) (vs := (dropI x0.rules x1).map Rule.tencN) (fun e => hsp.2.1 (List.map_eq_nil_iff.1 e))
    have g0 := r_spec_WithoutRuleIn (k - 1) (by omega) x0 (by omega) x1 hsp.1
    have g4 := r_laws_eqPolicy (fl := true) (gl := true) (k - 1) (by omega) ⟨x0.version, dropI x0.rules x1⟩ ⟨x0.version, dropI x0.rules x1⟩ (by have := dropI_w x0.rules x1; simp -implicitDefEqProofs only [Policy.w, wl] at *; omega)
    have g1 := r_laws_markPolicyN (k - 1) x0.version (dropI x0.rules x1) (by have := dropI_w x0.rules x1; unfold Policy.w at *; omega) 1 (by have := dropI_sum x0.rules x1; have := sum_rule x0.rules; unfold Policy.w at *; omega) hsp.2.1
    have g2 := r_laws_heldPolicy (fl := true) (k - 1) ⟨x0.version, dropI x0.rules x1⟩ (by have := dropI_w x0.rules x1; simp -implicitDefEqProofs only [Policy.w] at *; omega) 1 (by have := dropI_sum x0.rules x1; have := sum_rule x0.rules; simp -implicitDefEqProofs only [Policy.w] at *; omega)
    have h9 : decide ((1 : Int) + ((sumG ruleW (dropI x0.rules x1) : Nat) : Int) < 0) = false := decide_eq_false (by omega)
    simp -implicitDefEqProofs only [enc_Policy] at g2
    obtain ⟨k, rfl⟩ : ∃ j, k = j + 1 := ⟨k - 1, by omega⟩
    rw [run_succ rfl rfl, body_eq (nt := 74) (fn := Go.Proofs.Try.f3) (by kernel_rfl) rfl rfl rfl rfl rfl rfl rfl rfl]
    simp -implicitDefEqProofs only [Nat.add_sub_cancel, decide_true, Policy.encT, enc_Policy, hE, h9, hsS] at s0 t0 e0 f0 f1 f2 g0 g1 g2 g4
    simp -implicitDefEqProofs only [W3, ↓D3, ↓DA, ↓DP, ↓DC, QX, Go.Proofs.Try.f3, hE, h9, hsS, Policy.encT, enc_Policy, s0, t0, e0, f0, f1, f2, g0, g1, g2, g4, d0, bne, SH, look_cons, reduceCtorEq, evCall_mutOwn, evCall_mutAgg, evGive, giveRows, ioBoxes, mutArgs, roArgs, handArg, mutSlots, isPtrB, pairs, pairss, back_nil, back_cons, backO, backE, setBoxes, importB, mode_mut, mode_give, mode_io, mode_ro, List.zip_cons_cons, List.zip_nil_left, List.zip_nil_right, ite_self, ite_true, ite_false, finish_give, finish_mut1, finish_io0, finish_io1, finish_io2, finish_io3, finish_ioc, finI, finC, finW_ptr, evCall_mutNil, scals_ints, plains_ints, tscals_Rule, tscals_NR, tshuts_NR, shuts_Rule, after_refW, freeze_cons, mapO_mk, plan_3_10, Int.reduceToNat, id_eq, Int.reduceBEq, Int.reduceLE, Int.reduceLT, Nat.reduceAdd, Nat.reduceEqDiff, Nat.reduceLT, Nat.reduceLeDiff, Nat.reduceMul, Nat.reduceSub, reduceIte]
    repeat' (split <;> (rename_i h; (try simp -implicitDefEqProofs only [Bool.not_eq_true', Bool.not_eq_false', decide_eq_true_eq, decide_eq_false_iff_not] at h); (try simp -implicitDefEqProofs only [W3, ↓D3, ↓DA, ↓DP, ↓DC, QX, *, hE, h9, hsS, Policy.encT, enc_Policy, s0, t0, e0, f0, f1, f2, g0, g1, g2, g4, d0, bne, SH, look_cons, reduceCtorEq, evCall_mutOwn, evCall_mutAgg, evGive, giveRows, ioBoxes, mutArgs, roArgs, handArg, mutSlots, isPtrB, pairs, pairss, back_nil, back_cons, backO, backE, setBoxes, importB, mode_mut, mode_give, mode_io, mode_ro, List.zip_cons_cons, List.zip_nil_left, List.zip_nil_right, ite_self, ite_true, ite_false, finish_give, finish_mut1, finish_io0, finish_io1, finish_io2, finish_io3, finish_ioc, finI, finC, finW_ptr, evCall_mutNil, scals_ints, plains_ints, tscals_Rule, tscals_NR, tshuts_NR, shuts_Rule, after_refW, freeze_cons, mapO_mk, plan_3_10, Int.reduceToNat, id_eq, Int.reduceBEq, Int.reduceLE, Int.reduceLT, Nat.reduceAdd, Nat.reduceEqDiff, Nat.reduceLT, Nat.reduceLeDiff, Nat.reduceMul, Nat.reduceSub, reduceIte])))
  ·
    have s0 := r_laws_szPolicy (fl := false) (k - 1) x0 (by omega) h0 1048576 (by omega) (by omega)
    have z0 : left 1048576 (x0.w) = -1 := left_gt (by omega)
    rw [z0] at s0
    obtain ⟨k, rfl⟩ : ∃ j, k = j + 1 := ⟨k - 1, by omega⟩
    rw [run_succ rfl rfl, body_eq (nt := 74) (fn := Go.Proofs.Try.f3) (by kernel_rfl) rfl rfl rfl rfl rfl rfl rfl rfl]
    simp -implicitDefEqProofs only [Nat.add_sub_cancel, decide_true, Policy.encT, enc_Policy] at s0
    simp -implicitDefEqProofs only [W3, ↓D3, ↓DA, ↓DP, ↓DC, QX, Go.Proofs.Try.f3, Policy.encT, enc_Policy, s0, bne, SH, plan_3_10, Int.reduceToNat, id_eq, Int.reduceBEq, Int.reduceLE, Int.reduceLT, Nat.reduceAdd, Nat.reduceEqDiff, Nat.reduceLT, Nat.reduceLeDiff, Nat.reduceMul, Nat.reduceSub, reduceIte]
    repeat' (split <;> (rename_i h; (try simp -implicitDefEqProofs only [Bool.not_eq_true', Bool.not_eq_false', decide_eq_true_eq, decide_eq_false_iff_not] at h); (try simp -implicitDefEqProofs only [W3, ↓D3, ↓DA, ↓DP, ↓DC, QX, *, Policy.encT, enc_Policy, s0, bne, SH, plan_3_10, Int.reduceToNat, id_eq, Int.reduceBEq, Int.reduceLE, Int.reduceLT, Nat.reduceAdd, Nat.reduceEqDiff, Nat.reduceLT, Nat.reduceLeDiff, Nat.reduceMul, Nat.reduceSub, reduceIte])))
theorem reckoned1 (x0 : Policy) (x1 : Int) (h0 : x0.fits) (hsp : (0 ≤ x1 ∧ x1 < (x0.rules.length : Int)) ∧ dropI x0.rules x1 = []) (k : Nat) (hk : 1152921504606846976 + 4 * ((x0.w)) + 60 ≤ k) : run E noExt k 3 [x0.enc false, .int .i64 x1] [] = some (.bool true, []) := by
  by_cases b0 : (((x0.w) : Nat) : Int) ≤ 1048576
  ·
    have s0 := r_laws_szPolicy (fl := false) (k - 1) x0 (by omega) h0 1048576 (by omega) (by omega)
    have z0 : left 1048576 (x0.w) = 1048576 - (((x0.w) : Nat) : Int) := (left_le (by omega)).trans (by omega)
    have d0 : decide ((1048576 : Int) - (((x0.w) : Nat) : Int) < 0) = false := decide_eq_false (by omega)
    rw [z0] at s0
    have t0 := r_laws_toPolicy (fl := false) (k - 1) (by omega) x0 (by omega)
    have e0 := r_laws_eqPolicy (fl := true) (gl := true) (k - 1) (by omega) x0 x0 (by omega)
    have f0 := r_impl_WithoutRuleT (k - 1) (by omega) x0 (by omega) x1
    have f1 := r_laws_markPolicy (k - 1) x0 (by omega) 1 (by have := sum_rule x0.rules; unfold Policy.w at *; omega)
    have f2 := (decide_eq_false (by omega) : decide ((1 : Int) + ((sumG ruleW x0.rules : Nat) : Int) < 0) = false)
    have hd := hsp.2
    have g0 := r_spec_WithoutRuleIn (k - 1) (by omega) x0 (by omega) x1 hsp.1
    have g4 := r_laws_eqPolicy (fl := true) (gl := true) (k - 1) (by omega) ⟨x0.version, []⟩ ⟨x0.version, []⟩ (by have := dropI_w x0.rules x1; simp -implicitDefEqProofs only [Policy.w, wl] at *; omega)
    have g1 := r_laws_markPolicy_nil (k - 1) x0.version (by omega) 1
    have g2 := r_laws_heldPolicy_nil (fl := true) (k - 1) x0.version (by omega) 1 (by omega)
    have h9 : decide ((1 : Int) < 0) = false := by decide
    obtain ⟨k, rfl⟩ : ∃ j, k = j + 1 := ⟨k - 1, by omega⟩
    rw [run_succ rfl rfl, body_eq (nt := 74) (fn := Go.Proofs.Try.f3) (by kernel_rfl) rfl rfl rfl rfl rfl rfl rfl rfl]
    simp -implicitDefEqProofs only [Nat.add_sub_cancel, decide_true, Policy.encT, enc_Policy, hd, rowR_nil, h9, List.map_nil] at s0 t0 e0 f0 f1 f2 g0 g1 g2 g4
    simp -implicitDefEqProofs only [W3, ↓D3, ↓DA, ↓DP, ↓DC, QX, Go.Proofs.Try.f3, hd, rowR_nil, h9, Policy.encT, enc_Policy, s0, t0, e0, f0, f1, f2, g0, g1, g2, g4, d0, bne, SH, look_cons, reduceCtorEq, evCall_mutOwn, evCall_mutAgg, evGive, giveRows, ioBoxes, mutArgs, roArgs, handArg, mutSlots, isPtrB, pairs, pairss, back_nil, back_cons, backO, backE, setBoxes, importB, mode_mut, mode_give, mode_io, mode_ro, List.zip_cons_cons, List.zip_nil_left, List.zip_nil_right, ite_self, ite_true, ite_false, finish_give, finish_mut1, finish_io0, finish_io1, finish_io2, finish_io3, finish_ioc, finI, finC, finW_ptr, evCall_mutNil, scals_ints, plains_ints, tscals_Rule, tscals_NR, tshuts_NR, shuts_Rule, after_refW, freeze_cons, mapO_mk, plan_3_10, Int.reduceToNat, id_eq, Int.reduceBEq, Int.reduceLE, Int.reduceLT, Nat.reduceAdd, Nat.reduceEqDiff, Nat.reduceLT, Nat.reduceLeDiff, Nat.reduceMul, Nat.reduceSub, reduceIte]
    repeat' (split <;> (rename_i h; (try simp -implicitDefEqProofs only [Bool.not_eq_true', Bool.not_eq_false', decide_eq_true_eq, decide_eq_false_iff_not] at h); (try simp -implicitDefEqProofs only [W3, ↓D3, ↓DA, ↓DP, ↓DC, QX, *, hd, rowR_nil, h9, Policy.encT, enc_Policy, s0, t0, e0, f0, f1, f2, g0, g1, g2, g4, d0, bne, SH, look_cons, reduceCtorEq, evCall_mutOwn, evCall_mutAgg, evGive, giveRows, ioBoxes, mutArgs, roArgs, handArg, mutSlots, isPtrB, pairs, pairss, back_nil, back_cons, backO, backE, setBoxes, importB, mode_mut, mode_give, mode_io, mode_ro, List.zip_cons_cons, List.zip_nil_left, List.zip_nil_right, ite_self, ite_true, ite_false, finish_give, finish_mut1, finish_io0, finish_io1, finish_io2, finish_io3, finish_ioc, finI, finC, finW_ptr, evCall_mutNil, scals_ints, plains_ints, tscals_Rule, tscals_NR, tshuts_NR, shuts_Rule, after_refW, freeze_cons, mapO_mk, plan_3_10, Int.reduceToNat, id_eq, Int.reduceBEq, Int.reduceLE, Int.reduceLT, Nat.reduceAdd, Nat.reduceEqDiff, Nat.reduceLT, Nat.reduceLeDiff, Nat.reduceMul, Nat.reduceSub, reduceIte])))
  ·
    have s0 := r_laws_szPolicy (fl := false) (k - 1) x0 (by omega) h0 1048576 (by omega) (by omega)
    have z0 : left 1048576 (x0.w) = -1 := left_gt (by omega)
    rw [z0] at s0
    obtain ⟨k, rfl⟩ : ∃ j, k = j + 1 := ⟨k - 1, by omega⟩
    rw [run_succ rfl rfl, body_eq (nt := 74) (fn := Go.Proofs.Try.f3) (by kernel_rfl) rfl rfl rfl rfl rfl rfl rfl rfl]
    simp -implicitDefEqProofs only [Nat.add_sub_cancel, decide_true, Policy.encT, enc_Policy] at s0
    simp -implicitDefEqProofs only [W3, ↓D3, ↓DA, ↓DP, ↓DC, QX, Go.Proofs.Try.f3, Policy.encT, enc_Policy, s0, bne, SH, plan_3_10, Int.reduceToNat, id_eq, Int.reduceBEq, Int.reduceLE, Int.reduceLT, Nat.reduceAdd, Nat.reduceEqDiff, Nat.reduceLT, Nat.reduceLeDiff, Nat.reduceMul, Nat.reduceSub, reduceIte]
    repeat' (split <;> (rename_i h; (try simp -implicitDefEqProofs only [Bool.not_eq_true', Bool.not_eq_false', decide_eq_true_eq, decide_eq_false_iff_not] at h); (try simp -implicitDefEqProofs only [W3, ↓D3, ↓DA, ↓DP, ↓DC, QX, *, Policy.encT, enc_Policy, s0, bne, SH, plan_3_10, Int.reduceToNat, id_eq, Int.reduceBEq, Int.reduceLE, Int.reduceLT, Nat.reduceAdd, Nat.reduceEqDiff, Nat.reduceLT, Nat.reduceLeDiff, Nat.reduceMul, Nat.reduceSub, reduceIte])))
theorem reckoned2 (x0 : Policy) (x1 : Int) (h0 : x0.fits) (hsp : (¬ (0 ≤ x1 ∧ x1 < (x0.rules.length : Int))) ∧ x0.rules ≠ []) (k : Nat) (hk : 1152921504606846976 + 4 * ((x0.w)) + 60 ≤ k) : run E noExt k 3 [x0.enc false, .int .i64 x1] [] = some (.bool true, []) := by
  by_cases b0 : (((x0.w) : Nat) : Int) ≤ 1048576
  ·
    have s0 := r_laws_szPolicy (fl := false) (k - 1) x0 (by omega) h0 1048576 (by omega) (by omega)
    have z0 : left 1048576 (x0.w) = 1048576 - (((x0.w) : Nat) : Int) := (left_le (by omega)).trans (by omega)
    have d0 : decide ((1048576 : Int) - (((x0.w) : Nat) : Int) < 0) = false := decide_eq_false (by omega)
    rw [z0] at s0
    have t0 := r_laws_toPolicy (fl := false) (k - 1) (by omega) x0 (by omega)
    have e0 := r_laws_eqPolicy (fl := true) (gl := true) (k - 1) (by omega) x0 x0 (by omega)
    have f0 := r_impl_WithoutRuleT (k - 1) (by omega) x0 (by omega) x1
    have f1 := r_laws_markPolicy (k - 1) x0 (by omega) 1 (by have := sum_rule x0.rules; unfold Policy.w at *; omega)
    have f2 := (decide_eq_false (by omega) : decide ((1 : Int) + ((sumG ruleW x0.rules : Nat) : Int) < 0) = false)
    have ho := dropI_out hsp.1
    have hE := rowR_ne (id := 0) (vs := x0.rules.map Rule.tencN) (fun e => hsp.2 (List.map_eq_nil_iff.1 e))
    have g0 := r_spec_WithoutRuleOut (k - 1) (by omega) x0 (by omega) x1 hsp.1
    have g4 := r_laws_eqPolicy (fl := true) (gl := true) (k - 1) (by omega) ⟨x0.version, x0.rules⟩ ⟨x0.version, x0.rules⟩ (by have := dropI_w x0.rules x1; simp -implicitDefEqProofs only [Policy.w, wl] at *; omega)
    have g1 := r_laws_markPolicyN (k - 1) x0.version (x0.rules) (by have := dropI_w x0.rules x1; unfold Policy.w at *; omega) 1 (by have := dropI_sum x0.rules x1; have := sum_rule x0.rules; unfold Policy.w at *; omega) hsp.2
    have g2 := r_laws_heldPolicy (fl := true) (k - 1) ⟨x0.version, x0.rules⟩ (by have := dropI_w x0.rules x1; simp -implicitDefEqProofs only [Policy.w] at *; omega) 1 (by have := dropI_sum x0.rules x1; have := sum_rule x0.rules; simp -implicitDefEqProofs only [Policy.w] at *; omega)
    have h9 : decide ((1 : Int) + ((sumG ruleW (x0.rules) : Nat) : Int) < 0) = false := decide_eq_false (by omega)
    simp -implicitDefEqProofs only [enc_Policy] at g2
    obtain ⟨k, rfl⟩ : ∃ j, k = j + 1 := ⟨k - 1, by omega⟩
    rw [run_succ rfl rfl, body_eq (nt := 74) (fn := Go.Proofs.Try.f3) (by kernel_rfl) rfl rfl rfl rfl rfl rfl rfl rfl]
    simp -implicitDefEqProofs only [Nat.add_sub_cancel, decide_true, Policy.encT, enc_Policy, ho, hE, h9] at s0 t0 e0 f0 f1 f2 g0 g1 g2 g4
    simp -implicitDefEqProofs only [W3, ↓D3, ↓DA, ↓DP, ↓DC, QX, Go.Proofs.Try.f3, ho, hE, h9, Policy.encT, enc_Policy, s0, t0, e0, f0, f1, f2, g0, g1, g2, g4, d0, bne, SH, look_cons, reduceCtorEq, evCall_mutOwn, evCall_mutAgg, evGive, giveRows, ioBoxes, mutArgs, roArgs, handArg, mutSlots, isPtrB, pairs, pairss, back_nil, back_cons, backO, backE, setBoxes, importB, mode_mut, mode_give, mode_io, mode_ro, List.zip_cons_cons, List.zip_nil_left, List.zip_nil_right, ite_self, ite_true, ite_false, finish_give, finish_mut1, finish_io0, finish_io1, finish_io2, finish_io3, finish_ioc, finI, finC, finW_ptr, evCall_mutNil, scals_ints, plains_ints, tscals_Rule, tscals_NR, tshuts_NR, shuts_Rule, after_refW, freeze_cons, mapO_mk, plan_3_10, Int.reduceToNat, id_eq, Int.reduceBEq, Int.reduceLE, Int.reduceLT, Nat.reduceAdd, Nat.reduceEqDiff, Nat.reduceLT, Nat.reduceLeDiff, Nat.reduceMul, Nat.reduceSub, reduceIte]
    repeat' (split <;> (rename_i h; (try simp -implicitDefEqProofs only [Bool.not_eq_true', Bool.not_eq_false', decide_eq_true_eq, decide_eq_false_iff_not] at h); (try simp -implicitDefEqProofs only [W3, ↓D3, ↓DA, ↓DP, ↓DC, QX, *, ho, hE, h9, Policy.encT, enc_Policy, s0, t0, e0, f0, f1, f2, g0, g1, g2, g4, d0, bne, SH, look_cons, reduceCtorEq, evCall_mutOwn, evCall_mutAgg, evGive, giveRows, ioBoxes, mutArgs, roArgs, handArg, mutSlots, isPtrB, pairs, pairss, back_nil, back_cons, backO, backE, setBoxes, importB, mode_mut, mode_give, mode_io, mode_ro, List.zip_cons_cons, List.zip_nil_left, List.zip_nil_right, ite_self, ite_true, ite_false, finish_give, finish_mut1, finish_io0, finish_io1, finish_io2, finish_io3, finish_ioc, finI, finC, finW_ptr, evCall_mutNil, scals_ints, plains_ints, tscals_Rule, tscals_NR, tshuts_NR, shuts_Rule, after_refW, freeze_cons, mapO_mk, plan_3_10, Int.reduceToNat, id_eq, Int.reduceBEq, Int.reduceLE, Int.reduceLT, Nat.reduceAdd, Nat.reduceEqDiff, Nat.reduceLT, Nat.reduceLeDiff, Nat.reduceMul, Nat.reduceSub, reduceIte])))
  ·
    have s0 := r_laws_szPolicy (fl := false) (k - 1) x0 (by omega) h0 1048576 (by omega) (by omega)
    have z0 : left 1048576 (x0.w) = -1 := left_gt (by omega)
    rw [z0] at s0
    obtain ⟨k, rfl⟩ : ∃ j, k = j + 1 := ⟨k - 1, by omega⟩
    rw [run_succ rfl rfl, body_eq (nt := 74) (fn := Go.Proofs.Try.f3) (by kernel_rfl) rfl rfl rfl rfl rfl rfl rfl rfl]
    simp -implicitDefEqProofs only [Nat.add_sub_cancel, decide_true, Policy.encT, enc_Policy] at s0
    simp -implicitDefEqProofs only [W3, ↓D3, ↓DA, ↓DP, ↓DC, QX, Go.Proofs.Try.f3, Policy.encT, enc_Policy, s0, bne, SH, plan_3_10, Int.reduceToNat, id_eq, Int.reduceBEq, Int.reduceLE, Int.reduceLT, Nat.reduceAdd, Nat.reduceEqDiff, Nat.reduceLT, Nat.reduceLeDiff, Nat.reduceMul, Nat.reduceSub, reduceIte]
    repeat' (split <;> (rename_i h; (try simp -implicitDefEqProofs only [Bool.not_eq_true', Bool.not_eq_false', decide_eq_true_eq, decide_eq_false_iff_not] at h); (try simp -implicitDefEqProofs only [W3, ↓D3, ↓DA, ↓DP, ↓DC, QX, *, Policy.encT, enc_Policy, s0, bne, SH, plan_3_10, Int.reduceToNat, id_eq, Int.reduceBEq, Int.reduceLE, Int.reduceLT, Nat.reduceAdd, Nat.reduceEqDiff, Nat.reduceLT, Nat.reduceLeDiff, Nat.reduceMul, Nat.reduceSub, reduceIte])))
theorem reckoned3 (x0 : Policy) (x1 : Int) (h0 : x0.fits) (hsp : (¬ (0 ≤ x1 ∧ x1 < (x0.rules.length : Int))) ∧ x0.rules = []) (k : Nat) (hk : 1152921504606846976 + 4 * ((x0.w)) + 60 ≤ k) : run E noExt k 3 [x0.enc false, .int .i64 x1] [] = some (.bool true, []) := by
  by_cases b0 : (((x0.w) : Nat) : Int) ≤ 1048576
  ·
    have s0 := r_laws_szPolicy (fl := false) (k - 1) x0 (by omega) h0 1048576 (by omega) (by omega)
    have z0 : left 1048576 (x0.w) = 1048576 - (((x0.w) : Nat) : Int) := (left_le (by omega)).trans (by omega)
    have d0 : decide ((1048576 : Int) - (((x0.w) : Nat) : Int) < 0) = false := decide_eq_false (by omega)
    rw [z0] at s0
    have t0 := r_laws_toPolicy (fl := false) (k - 1) (by omega) x0 (by omega)
    have e0 := r_laws_eqPolicy (fl := true) (gl := true) (k - 1) (by omega) x0 x0 (by omega)
    have f0 := r_impl_WithoutRuleT (k - 1) (by omega) x0 (by omega) x1
    have f1 := r_laws_markPolicy (k - 1) x0 (by omega) 1 (by have := sum_rule x0.rules; unfold Policy.w at *; omega)
    have f2 := (decide_eq_false (by omega) : decide ((1 : Int) + ((sumG ruleW x0.rules : Nat) : Int) < 0) = false)
    have ho := dropI_out hsp.1
    have hE : rowR 0 (x0.rules.map Rule.tencN) = .nils := by rw [hsp.2]; rfl
    have g0 := r_spec_WithoutRuleOut (k - 1) (by omega) x0 (by omega) x1 hsp.1
    have g4 := r_laws_eqPolicy (fl := true) (gl := true) (k - 1) (by omega) ⟨x0.version, []⟩ ⟨x0.version, []⟩ (by have := dropI_w x0.rules x1; simp -implicitDefEqProofs only [Policy.w, wl] at *; omega)
    have g1 := r_laws_markPolicy_nil (k - 1) x0.version (by omega) 1
    have g2 := r_laws_heldPolicy_nil (fl := true) (k - 1) x0.version (by omega) 1 (by omega)
    have h9 : decide ((1 : Int) < 0) = false := by decide
    obtain ⟨k, rfl⟩ : ∃ j, k = j + 1 := ⟨k - 1, by omega⟩
    rw [run_succ rfl rfl, body_eq (nt := 74) (fn := Go.Proofs.Try.f3) (by kernel_rfl) rfl rfl rfl rfl rfl rfl rfl rfl]
    simp -implicitDefEqProofs only [Nat.add_sub_cancel, decide_true, Policy.encT, enc_Policy, ho, hE, h9, List.map_nil] at s0 t0 e0 f0 f1 f2 g0 g1 g2 g4
    simp -implicitDefEqProofs only [W3, ↓D3, ↓DA, ↓DP, ↓DC, QX, Go.Proofs.Try.f3, ho, hE, h9, Policy.encT, enc_Policy, s0, t0, e0, f0, f1, f2, g0, g1, g2, g4, d0, bne, SH, look_cons, reduceCtorEq, evCall_mutOwn, evCall_mutAgg, evGive, giveRows, ioBoxes, mutArgs, roArgs, handArg, mutSlots, isPtrB, pairs, pairss, back_nil, back_cons, backO, backE, setBoxes, importB, mode_mut, mode_give, mode_io, mode_ro, List.zip_cons_cons, List.zip_nil_left, List.zip_nil_right, ite_self, ite_true, ite_false, finish_give, finish_mut1, finish_io0, finish_io1, finish_io2, finish_io3, finish_ioc, finI, finC, finW_ptr, evCall_mutNil, scals_ints, plains_ints, tscals_Rule, tscals_NR, tshuts_NR, shuts_Rule, after_refW, freeze_cons, mapO_mk, plan_3_10, Int.reduceToNat, id_eq, Int.reduceBEq, Int.reduceLE, Int.reduceLT, Nat.reduceAdd, Nat.reduceEqDiff, Nat.reduceLT, Nat.reduceLeDiff, Nat.reduceMul, Nat.reduceSub, reduceIte]
    repeat' (split <;> (rename_i h; (try simp -implicitDefEqProofs only [Bool.not_eq_true', Bool.not_eq_false', decide_eq_true_eq, decide_eq_false_iff_not] at h); (try simp -implicitDefEqProofs only [W3, ↓D3, ↓DA, ↓DP, ↓DC, QX, *, ho, hE, h9, Policy.encT, enc_Policy, s0, t0, e0, f0, f1, f2, g0, g1, g2, g4, d0, bne, SH, look_cons, reduceCtorEq, evCall_mutOwn, evCall_mutAgg, evGive, giveRows, ioBoxes, mutArgs, roArgs, handArg, mutSlots, isPtrB, pairs, pairss, back_nil, back_cons, backO, backE, setBoxes, importB, mode_mut, mode_give, mode_io, mode_ro, List.zip_cons_cons, List.zip_nil_left, List.zip_nil_right, ite_self, ite_true, ite_false, finish_give, finish_mut1, finish_io0, finish_io1, finish_io2, finish_io3, finish_ioc, finI, finC, finW_ptr, evCall_mutNil, scals_ints, plains_ints, tscals_Rule, tscals_NR, tshuts_NR, shuts_Rule, after_refW, freeze_cons, mapO_mk, plan_3_10, Int.reduceToNat, id_eq, Int.reduceBEq, Int.reduceLE, Int.reduceLT, Nat.reduceAdd, Nat.reduceEqDiff, Nat.reduceLT, Nat.reduceLeDiff, Nat.reduceMul, Nat.reduceSub, reduceIte])))
  ·
    have s0 := r_laws_szPolicy (fl := false) (k - 1) x0 (by omega) h0 1048576 (by omega) (by omega)
    have z0 : left 1048576 (x0.w) = -1 := left_gt (by omega)
    rw [z0] at s0
    obtain ⟨k, rfl⟩ : ∃ j, k = j + 1 := ⟨k - 1, by omega⟩
    rw [run_succ rfl rfl, body_eq (nt := 74) (fn := Go.Proofs.Try.f3) (by kernel_rfl) rfl rfl rfl rfl rfl rfl rfl rfl]
    simp -implicitDefEqProofs only [Nat.add_sub_cancel, decide_true, Policy.encT, enc_Policy] at s0
    simp -implicitDefEqProofs only [W3, ↓D3, ↓DA, ↓DP, ↓DC, QX, Go.Proofs.Try.f3, Policy.encT, enc_Policy, s0, bne, SH, plan_3_10, Int.reduceToNat, id_eq, Int.reduceBEq, Int.reduceLE, Int.reduceLT, Nat.reduceAdd, Nat.reduceEqDiff, Nat.reduceLT, Nat.reduceLeDiff, Nat.reduceMul, Nat.reduceSub, reduceIte]
    repeat' (split <;> (rename_i h; (try simp -implicitDefEqProofs only [Bool.not_eq_true', Bool.not_eq_false', decide_eq_true_eq, decide_eq_false_iff_not] at h); (try simp -implicitDefEqProofs only [W3, ↓D3, ↓DA, ↓DP, ↓DC, QX, *, Policy.encT, enc_Policy, s0, bne, SH, plan_3_10, Int.reduceToNat, id_eq, Int.reduceBEq, Int.reduceLE, Int.reduceLT, Nat.reduceAdd, Nat.reduceEqDiff, Nat.reduceLT, Nat.reduceLeDiff, Nat.reduceMul, Nat.reduceSub, reduceIte])))
theorem reckoned4 (x0 : Policy) (x1 : Int) (h0 : x0.fits) (hsp : (0 ≤ x1 ∧ x1 < (x0.rules.length : Int)) ∧ dropI x0.rules x1 ≠ [] ∧ AV.scals ((dropI x0.rules x1).map (Rule.enc true)) = false) (k : Nat) (hk : 1152921504606846976 + 4 * ((x0.w)) + 60 ≤ k) : run E noExt k 3 [x0.enc false, .int .i64 x1] [] = some (.bool true, []) := by
  by_cases b0 : (((x0.w) : Nat) : Int) ≤ 1048576
  ·
    have s0 := r_laws_szPolicy (fl := false) (k - 1) x0 (by omega) h0 1048576 (by omega) (by omega)
    have z0 : left 1048576 (x0.w) = 1048576 - (((x0.w) : Nat) : Int) := (left_le (by omega)).trans (by omega)
    have d0 : decide ((1048576 : Int) - (((x0.w) : Nat) : Int) < 0) = false := decide_eq_false (by omega)
    rw [z0] at s0
    have t0 := r_laws_toPolicy (fl := false) (k - 1) (by omega) x0 (by omega)
    have e0 := r_laws_eqPolicy (fl := true) (gl := true) (k - 1) (by omega) x0 x0 (by omega)
    have f0 := r_impl_WithoutRuleT (k - 1) (by omega) x0 (by omega) x1
    have f1 := r_laws_markPolicy (k - 1) x0 (by omega) 1 (by have := sum_rule x0.rules; unfold Policy.w at *; omega)
    have f2 := (decide_eq_false (by omega) : decide ((1 : Int) + ((sumG ruleW x0.rules : Nat) : Int) < 0) = false)
    have hsS := hsp.2.2
    have hE := rowR_ne (id := 0) (vs := (dropI x0.rules x1).map Rule.tencN) (fun e => hsp.2.1 (List.map_eq_nil_iff.1 e))
    have g0 := r_spec_WithoutRuleIn (k - 1) (by omega) x0 (by omega) x1 hsp.1
    have g4 := r_laws_eqPolicy (fl := true) (gl := true) (k - 1) (by omega) ⟨x0.version, dropI x0.rules x1⟩ ⟨x0.version, dropI x0.rules x1⟩ (by have := dropI_w x0.rules x1; simp -implicitDefEqProofs only [Policy.w, wl] at *; omega)
    have g1 := r_laws_markPolicyN (k - 1) x0.version (dropI x0.rules x1) (by have := dropI_w x0.rules x1; unfold Policy.w at *; omega) 1 (by have := dropI_sum x0.rules x1; have := sum_rule x0.rules; unfold Policy.w at *; omega) hsp.2.1
    have g2 := r_laws_heldPolicy (fl := true) (k - 1) ⟨x0.version, dropI x0.rules x1⟩ (by have := dropI_w x0.rules x1; simp -implicitDefEqProofs only [Policy.w] at *; omega) 1 (by have := dropI_sum x0.rules x1; have := sum_rule x0.rules; simp -implicitDefEqProofs only [Policy.w] at *; omega)
    have h9 : decide ((1 : Int) + ((sumG ruleW (dropI x0.rules x1) : Nat) : Int) < 0) = false := decide_eq_false (by omega)
    simp -implicitDefEqProofs only [enc_Policy] at g2
    obtain ⟨k, rfl⟩ : ∃ j, k = j + 1 := ⟨k - 1, by omega⟩
    rw [run_succ rfl rfl, body_eq (nt := 74) (fn := Go.Proofs.Try.f3) (by kernel_rfl) rfl rfl rfl rfl rfl rfl rfl rfl]
    simp -implicitDefEqProofs only [Nat.add_sub_cancel, decide_true, Policy.encT, enc_Policy, hE, h9, hsS] at s0 t0 e0 f0 f1 f2 g0 g1 g2 g4
    simp -implicitDefEqProofs only [W3, ↓D3, ↓DA, ↓DP, ↓DC, QX, Go.Proofs.Try.f3, hE, h9, hsS, Policy.encT, enc_Policy, s0, t0, e0, f0, f1, f2, g0, g1, g2, g4, d0, bne, SH, look_cons, reduceCtorEq, evCall_mutOwn, evCall_mutAgg, evGive, giveRows, ioBoxes, mutArgs, roArgs, handArg, mutSlots, isPtrB, pairs, pairss, back_nil, back_cons, backO, backE, setBoxes, importB, mode_mut, mode_give, mode_io, mode_ro, List.zip_cons_cons, List.zip_nil_left, List.zip_nil_right, ite_self, ite_true, ite_false, finish_give, finish_mut1, finish_io0, finish_io1, finish_io2, finish_io3, finish_ioc, finI, finC, finW_ptr, evCall_mutNil, scals_ints, plains_ints, tscals_Rule, tscals_NR, tshuts_NR, shuts_Rule, after_refW, freeze_cons, mapO_mk, plan_3_10, Int.reduceToNat, id_eq, Int.reduceBEq, Int.reduceLE, Int.reduceLT, Nat.reduceAdd, Nat.reduceEqDiff, Nat.reduceLT, Nat.reduceLeDiff, Nat.reduceMul, Nat.reduceSub, reduceIte]
    repeat' (split <;> (rename_i h; (try simp -implicitDefEqProofs only [Bool.not_eq_true', Bool.not_eq_false', decide_eq_true_eq, decide_eq_false_iff_not] at h); (try simp -implicitDefEqProofs only [W3, ↓D3, ↓DA, ↓DP, ↓DC, QX, *, hE, h9, hsS, Policy.encT, enc_Policy, s0, t0, e0, f0, f1, f2, g0, g1, g2, g4, d0, bne, SH, look_cons, reduceCtorEq, evCall_mutOwn, evCall_mutAgg, evGive, giveRows, ioBoxes, mutArgs, roArgs, handArg, mutSlots, isPtrB, pairs, pairss, back_nil, back_cons, backO, backE, setBoxes, importB, mode_mut, mode_give, mode_io, mode_ro, List.zip_cons_cons, List.zip_nil_left, List.zip_nil_right, ite_self, ite_true, ite_false, finish_give, finish_mut1, finish_io0, finish_io1, finish_io2, finish_io3, finish_ioc, finI, finC, finW_ptr, evCall_mutNil, scals_ints, plains_ints, tscals_Rule, tscals_NR, tshuts_NR, shuts_Rule, after_refW, freeze_cons, mapO_mk, plan_3_10, Int.reduceToNat, id_eq, Int.reduceBEq, Int.reduceLE, Int.reduceLT, Nat.reduceAdd, Nat.reduceEqDiff, Nat.reduceLT, Nat.reduceLeDiff, Nat.reduceMul, Nat.reduceSub, reduceIte])))
  ·
    have s0 := r_laws_szPolicy (fl := false) (k - 1) x0 (by omega) h0 1048576 (by omega) (by omega)
    have z0 : left 1048576 (x0.w) = -1 := left_gt (by omega)
    rw [z0] at s0
    obtain ⟨k, rfl⟩ : ∃ j, k = j + 1 := ⟨k - 1, by omega⟩
    rw [run_succ rfl rfl, body_eq (nt := 74) (fn := Go.Proofs.Try.f3) (by kernel_rfl) rfl rfl rfl rfl rfl rfl rfl rfl]
    simp -implicitDefEqProofs only [Nat.add_sub_cancel, decide_true, Policy.encT, enc_Policy] at s0
    simp -implicitDefEqProofs only [W3, ↓D3, ↓DA, ↓DP, ↓DC, QX, Go.Proofs.Try.f3, Policy.encT, enc_Policy, s0, bne, SH, plan_3_10, Int.reduceToNat, id_eq, Int.reduceBEq, Int.reduceLE, Int.reduceLT, Nat.reduceAdd, Nat.reduceEqDiff, Nat.reduceLT, Nat.reduceLeDiff, Nat.reduceMul, Nat.reduceSub, reduceIte]
    repeat' (split <;> (rename_i h; (try simp -implicitDefEqProofs only [Bool.not_eq_true', Bool.not_eq_false', decide_eq_true_eq, decide_eq_false_iff_not] at h); (try simp -implicitDefEqProofs only [W3, ↓D3, ↓DA, ↓DP, ↓DC, QX, *, Policy.encT, enc_Policy, s0, bne, SH, plan_3_10, Int.reduceToNat, id_eq, Int.reduceBEq, Int.reduceLE, Int.reduceLT, Nat.reduceAdd, Nat.reduceEqDiff, Nat.reduceLT, Nat.reduceLeDiff, Nat.reduceMul, Nat.reduceSub, reduceIte])))
theorem reckoned (x0 : Policy) (x1 : Int) (h0 : x0.fits) (k : Nat) (hk : 1152921504606846976 + 4 * ((x0.w)) + 60 ≤ k) : run E noExt k 3 [x0.enc false, .int .i64 x1] [] = some (.bool true, []) := by
  rcases Classical.em (0 ≤ x1 ∧ x1 < (x0.rules.length : Int)) with h1 | h1
  · rcases Classical.em (dropI x0.rules x1 = []) with h2 | h2
    · exact reckoned1 x0 x1 h0 ⟨h1, h2⟩ k hk
    · cases h3 : AV.scals ((dropI x0.rules x1).map (Rule.enc true))
      · exact reckoned4 x0 x1 h0 ⟨h1, h2, h3⟩ k hk
      · exact reckoned0 x0 x1 h0 ⟨h1, h2, h3⟩ k hk
  · rcases Classical.em (x0.rules = []) with h2 | h2
    · exact reckoned3 x0 x1 h0 ⟨h1, h2⟩ k hk
    · exact reckoned2 x0 x1 h0 ⟨h1, h2⟩ k hk
end
open Go.ChangeShapes Go.WideShapes Go.ChangeAt Go.RowKit Flat
theorem own : ownKnob Try.prog.godebug = none := by kernel_rfl
theorem laidOut : laidOutB Try.prog = true := by kernel_rfl
set_option maxRecDepth 100000 in
theorem lifted (os : Os) (started : os.Started) (H : Type) (enc : TypeId × Value → H) :
    ReturnsInHanded {} Try.checked os 3 .any (Rows.fnExactWithoutRuleSpec.pre6 enc Try.prog Try.f3 Rows.fnExactWithoutRuleRow.domain false) (Rows.fnExactWithoutRuleSpec.post enc Try.prog Try.f3 false true false false) := by
  refine returnsInHanded_of_change_sized (C := Try.checked) own started (by kernel_rfl) Try.func3
    (ChangeSpec.witness6 (enc := enc) (C := Try.checked) false ⟨#[], #[.agg #[.int .i64 0, .slice none 0 0], .int .i64 0], []⟩ 8 (by kernel_rfl) (by kernel_rfl) (by kernel_rfl) (by kernel_rfl)) ?_
  intro W base args ds gs before hval0 hW hcnd hsz0 _
  have hsz : (DataW.weightsEach Try.prog (Try.f3.params.toList ++ Rows.fnExactWithoutRuleSpec.plain.varTypes Try.prog) (ds ++ gs)).all (· ≤ reachBytes) = true := hsz0
  have hval : ∀ (j : Nat) t v, Try.f3.params[j]? = some t → args[j]? = some v → Value.okWide Try.prog W .any base t v := hval0
  have hW' := hW
  obtain ⟨p, q, hA0, hV, rfl, hfz, hnd⟩ := hW
  have hA : DataW.TrodAll enc Try.prog W 0 (fun _ => true) true Try.f3.params.toList args.toList ds p := hA0
  rw [Try.params3] at hA hval hsz
  obtain ⟨v0, vs0, d0, ds0, p0, q0, hargs, rfl, rfl, h0, r0⟩ := trodAll_cons hA
  obtain ⟨v1, vs1, d1, ds1, p1, q1, rfl, rfl, rfl, h1, r1⟩ := trodAll_cons r0
  obtain ⟨rfl, rfl, rfl⟩ := trodAll_nil r1
  obtain rfl : args = #[v0, v1] := by cases args; simp_all
  obtain ⟨rfl, rfl⟩ := trodVars_none hV
  have lt0 : ∀ x ∈ p0, x.block < W.heap.size := by obtain ⟨m, hm⟩ := h0; exact DataW.trod_lt m _ _ _ hm
  obtain ⟨n0, a0, ty0, ro0⟩ := handed (P := Try.prog) (ts := [24, 3, 22, 51, 49, 47]) (by kernel_rfl) (by kernel_rfl) (hval 0 24 v0 rfl rfl) h0 (weights_each hsz 0 24 d0 rfl rfl)
  obtain ⟨x0, rfl, fit0⟩ := shape_24 n0 a0 ty0
  have lt1 : ∀ x ∈ p1, x.block < W.heap.size := by obtain ⟨m, hm⟩ := h1; exact DataW.trod_lt m _ _ _ hm
  obtain ⟨n1, a1, ty1, ro1⟩ := handed (P := Try.prog) (ts := [3]) (by kernel_rfl) (by kernel_rfl) (hval 1 3 v1 rfl rfl) h1 (weights_each hsz 1 3 d1 rfl rfl)
  obtain ⟨x1, rfl, _⟩ := typed_int Try.underlying3 ty1
  refine (law_ok mixed sound (ext := noExt) hext (reckoned x0 x1 fit0 _ (Nat.le_refl _)) (args := #[v0, v1]) (W := W) rfl (fun j hj => by
    rcases j with _ | _ | j
    · exact ro0
    · exact ro1
    · simp at hj; omega)).mono fun e W' ⟨he, bel⟩ => ?_
  subst he
  exact ⟨_, rfl, _, _, _, [], _, [], hW', trodAll_mk1 (shut_bool Try.underlying4 _), (trodAll_cons_mk (Below.trod laidOut (by kernel_rfl) (of_decide_eq_true (by kernel_rfl)) h0 bel lt0) (trodAll_cons_mk (Below.trod laidOut (by kernel_rfl) (of_decide_eq_true (by kernel_rfl)) h1 bel lt1) trodAll_mk0)), rfl, bel.frame _, fun h => by cases h⟩
theorem over : Rows.fnExactWithoutRuleRow.holds Try.pinned (OpenSpec.ofChange Rows.fnExactWithoutRuleSpec) :=
  OpenClaim.holds_of_wide 3 Try.f3 rfl rfl rfl rfl rfl rfl rfl ⟨rfl, rfl, rfl, rfl, rfl⟩ rfl rfl rfl rfl rfl (by kernel_rfl) Try.func3 (by kernel_rfl)
    (of_decide_eq_true (by kernel_rfl)) (by unfold Func.isWrapper; first | (rw [if_pos (by decide +kernel)]; kernel_rfl) | (rw [if_neg (by decide +kernel)]; exact ⟨rfl, rfl⟩))
    (fun os started H enc _ => lifted os started H enc)
theorem proved : Rows.FnExactWithoutRuleSaid := over
#print axioms proved
end Go.Proofs.Ytkolknigffoleaa.fnExactWithoutRule
namespace Go.Proofs.Ytkolknigffoleaa
/-- The row, under a short name, for the claim. -/
theorem fnExactWithoutRule_holds : Rows.FnExactWithoutRuleSaid := fnExactWithoutRule.proved
end Go.Proofs.Ytkolknigffoleaa
