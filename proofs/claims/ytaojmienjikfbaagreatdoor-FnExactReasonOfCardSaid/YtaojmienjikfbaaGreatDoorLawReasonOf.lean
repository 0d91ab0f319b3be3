/-
The law of ReasonOf: it answers true, whatever it is handed.
-/
import Derived.Test.YtaojmienjikfbaaGreatDoorRows
import Derived.Test.YtaojmienjikfbaaGreatDoorEqS
import Derived.Test.YtaojmienjikfbaaGreatDoorEqT
import Derived.Test.YtaojmienjikfbaaGreatDoorEqA
import Derived.Test.YtaojmienjikfbaaGreatDoorEqRO
import Derived.Test.YtaojmienjikfbaaGreatDoorEqX
import Derived.WalkKit
import Derived.ProofKit
import Derived.OpenShut
import Derived.ShutString
import Derived.ChangeOld
import Derived.Below
import Derived.SizedLaws
import Derived.Carry
import Derived.Test.YtaojmienjikfbaaGreatDoorCards
import Derived.Test.YtaojmienjikfbaaGreatDoorTie
import Derived.LaidMore
import Derived.Stop.Joined
import Derived.SevenTiedAt
set_option linter.unusedVariables false
set_option linter.unusedSimpArgs false
set_option maxRecDepth 10000
namespace Go.Proofs.YtaojmienjikfbaaGreatDoor.fnExactReasonOf
section
open Flat
theorem reckoned (x0 : List Includes) (x1 : List Fact) (x2 : Policy) (x3 : Request) (h0 : FitL (fun _ => True) x0) (h1 : FitL (fun _ => True) x1) (h2 : x2.fits) (k : Nat) (hk : 1152921504606846976 + 4 * ((x0.length) + (x1.length) + (x2.w)) + 60 ≤ k) : run E noExt k 3 [.sl false (x0.map (Includes.enc false)), .sl false (x1.map (Fact.enc false)), x2.enc false, x3.enc false] [] = some (.bool true, []) := by
  by_cases b0 : (((x0.length) : Nat) : Int) ≤ 1048576
  ·
    by_cases b1 : (((x0.length) + (x1.length) : Nat) : Int) ≤ 1048576
    ·
      by_cases b2 : (((x0.length) + (x1.length) + (x2.w) : Nat) : Int) ≤ 1048576
      ·
        have s0 := r_laws_szIncludesS (fl := false) (k - 1) x0 (by omega) h0 1048576 (by omega) (by omega)
        have z0 : left 1048576 (x0.length) = 1048576 - (((x0.length) : Nat) : Int) := (left_le (by omega)).trans (by omega)
        have d0 : decide ((1048576 : Int) - (((x0.length) : Nat) : Int) < 0) = false := decide_eq_false (by omega)
        rw [z0] at s0
        have s1 := r_laws_szFactS (fl := false) (k - 1) x1 (by omega) h1 (1048576 - (((x0.length) : Nat) : Int)) (by omega) (by omega)
        have z1 : left (1048576 - (((x0.length) : Nat) : Int)) (x1.length) = 1048576 - (((x0.length) + (x1.length) : Nat) : Int) := (left_le (by omega)).trans (by omega)
        have d1 : decide ((1048576 : Int) - (((x0.length) + (x1.length) : Nat) : Int) < 0) = false := decide_eq_false (by omega)
        rw [z1] at s1
        have s2 := r_laws_szPolicy (fl := false) (k - 1) x2 (by omega) h2 (1048576 - (((x0.length) + (x1.length) : Nat) : Int)) (by omega) (by omega)
        have z2 : left (1048576 - (((x0.length) + (x1.length) : Nat) : Int)) (x2.w) = 1048576 - (((x0.length) + (x1.length) + (x2.w) : Nat) : Int) := (left_le (by omega)).trans (by omega)
        have d2 : decide ((1048576 : Int) - (((x0.length) + (x1.length) + (x2.w) : Nat) : Int) < 0) = false := decide_eq_false (by omega)
        rw [z2] at s2
        have t0 := r_laws_toIncludesS (fl := false) (k - 1) (by omega) x0 (by omega)
        have t1 := r_laws_toFactS (fl := false) (k - 1) (by omega) x1 (by omega)
        have t2 := r_laws_toPolicy (fl := false) (k - 1) (by omega) x2 (by omega)
        have t3 := r_laws_toRequest (fl := false) (k - 1) (by omega) x3
        have e0 := r_laws_eqIncludesS (fl := true) (gl := true) (k - 1) (by omega) x0 x0 (by omega)
        have e1 := r_laws_eqFactS (fl := true) (gl := true) (k - 1) (by omega) x1 x1 (by omega)
        have e2 := r_laws_eqPolicy (fl := true) (gl := true) (k - 1) (by omega) x2 x2 (by omega)
        have f0 := r_spec_ReasonOf (fl := true) (f2 := true) (f3 := true) (f4 := true) (k - 1) (by omega) x0 (by omega) x1 (by omega) x2 (by omega) x3
        have f1 := r_impl_ReasonOf (fl := true) (f2 := true) (f3 := true) (f4 := true) (k - 1) (by omega) x0 (by omega) x1 (by omega) x2 (by omega) x3
        obtain ⟨k, rfl⟩ : ∃ j, k = j + 1 := ⟨k - 1, by omega⟩
        rw [run_succ rfl rfl, body_eq (nt := 69) (fn := Go.Proofs.Tryz.f3) (by kernel_rfl) rfl rfl rfl rfl rfl rfl rfl rfl]
        simp -implicitDefEqProofs only [Nat.add_sub_cancel, decide_true, Policy.encO, enc_Fact, enc_Includes, enc_Policy, enc_Request] at s0 s1 s2 t0 t1 t2 t3 e0 e1 e2 f0 f1
        simp -implicitDefEqProofs only [W3, ↓D3, ↓DA, ↓DP, ↓DC, QX, Go.Proofs.Tryz.f3, Policy.encO, enc_Fact, enc_Includes, enc_Policy, enc_Request, s0, s1, s2, t0, t1, t2, t3, e0, e1, e2, f0, f1, d0, d1, d2, bne, SH, bin_sneq, plan_3_11, plan_3_15, plan_3_22, Int.reduceToNat, id_eq, Int.reduceBEq, Int.reduceLE, Int.reduceLT, Nat.reduceAdd, Nat.reduceEqDiff, Nat.reduceLT, Nat.reduceLeDiff, Nat.reduceMul, Nat.reduceSub, reduceIte]
        repeat' (split <;> (rename_i h; (try simp -implicitDefEqProofs only [Bool.not_eq_true', Bool.not_eq_false', decide_eq_true_eq, decide_eq_false_iff_not] at h); (try simp -implicitDefEqProofs only [W3, ↓D3, ↓DA, ↓DP, ↓DC, QX, *, Policy.encO, enc_Fact, enc_Includes, enc_Policy, enc_Request, s0, s1, s2, t0, t1, t2, t3, e0, e1, e2, f0, f1, d0, d1, d2, bne, SH, bin_sneq, plan_3_11, plan_3_15, plan_3_22, Int.reduceToNat, id_eq, Int.reduceBEq, Int.reduceLE, Int.reduceLT, Nat.reduceAdd, Nat.reduceEqDiff, Nat.reduceLT, Nat.reduceLeDiff, Nat.reduceMul, Nat.reduceSub, reduceIte])))
      ·
        have s0 := r_laws_szIncludesS (fl := false) (k - 1) x0 (by omega) h0 1048576 (by omega) (by omega)
        have z0 : left 1048576 (x0.length) = 1048576 - (((x0.length) : Nat) : Int) := (left_le (by omega)).trans (by omega)
        have d0 : decide ((1048576 : Int) - (((x0.length) : Nat) : Int) < 0) = false := decide_eq_false (by omega)
        rw [z0] at s0
        have s1 := r_laws_szFactS (fl := false) (k - 1) x1 (by omega) h1 (1048576 - (((x0.length) : Nat) : Int)) (by omega) (by omega)
        have z1 : left (1048576 - (((x0.length) : Nat) : Int)) (x1.length) = 1048576 - (((x0.length) + (x1.length) : Nat) : Int) := (left_le (by omega)).trans (by omega)
        have d1 : decide ((1048576 : Int) - (((x0.length) + (x1.length) : Nat) : Int) < 0) = false := decide_eq_false (by omega)
        rw [z1] at s1
        have s2 := r_laws_szPolicy (fl := false) (k - 1) x2 (by omega) h2 (1048576 - (((x0.length) + (x1.length) : Nat) : Int)) (by omega) (by omega)
        have z2 : left (1048576 - (((x0.length) + (x1.length) : Nat) : Int)) (x2.w) = -1 := left_gt (by omega)
        rw [z2] at s2
        obtain ⟨k, rfl⟩ : ∃ j, k = j + 1 := ⟨k - 1, by omega⟩
        rw [run_succ rfl rfl, body_eq (nt := 69) (fn := Go.Proofs.Tryz.f3) (by kernel_rfl) rfl rfl rfl rfl rfl rfl rfl rfl]
        simp -implicitDefEqProofs only [Nat.add_sub_cancel, decide_true, Policy.encO, enc_Fact, enc_Includes, enc_Policy, enc_Request] at s0 s1 s2
        simp -implicitDefEqProofs only [W3, ↓D3, ↓DA, ↓DP, ↓DC, QX, Go.Proofs.Tryz.f3, Policy.encO, enc_Fact, enc_Includes, enc_Policy, enc_Request, s0, s1, s2, d0, d1, bne, SH, plan_3_11, plan_3_15, plan_3_22, Int.reduceToNat, id_eq, Int.reduceBEq, Int.reduceLE, Int.reduceLT, Nat.reduceAdd, Nat.reduceEqDiff, Nat.reduceLT, Nat.reduceLeDiff, Nat.reduceMul, Nat.reduceSub, reduceIte]
        repeat' (split <;> (rename_i h; (try simp -implicitDefEqProofs only [Bool.not_eq_true', Bool.not_eq_false', decide_eq_true_eq, decide_eq_false_iff_not] at h); (try simp -implicitDefEqProofs only [W3, ↓D3, ↓DA, ↓DP, ↓DC, QX, *, Policy.encO, enc_Fact, enc_Includes, enc_Policy, enc_Request, s0, s1, s2, d0, d1, bne, SH, plan_3_11, plan_3_15, plan_3_22, Int.reduceToNat, id_eq, Int.reduceBEq, Int.reduceLE, Int.reduceLT, Nat.reduceAdd, Nat.reduceEqDiff, Nat.reduceLT, Nat.reduceLeDiff, Nat.reduceMul, Nat.reduceSub, reduceIte])))
    ·
      have s0 := r_laws_szIncludesS (fl := false) (k - 1) x0 (by omega) h0 1048576 (by omega) (by omega)
      have z0 : left 1048576 (x0.length) = 1048576 - (((x0.length) : Nat) : Int) := (left_le (by omega)).trans (by omega)
      have d0 : decide ((1048576 : Int) - (((x0.length) : Nat) : Int) < 0) = false := decide_eq_false (by omega)
      rw [z0] at s0
      have s1 := r_laws_szFactS (fl := false) (k - 1) x1 (by omega) h1 (1048576 - (((x0.length) : Nat) : Int)) (by omega) (by omega)
      have z1 : left (1048576 - (((x0.length) : Nat) : Int)) (x1.length) = -1 := left_gt (by omega)
      rw [z1] at s1
      obtain ⟨k, rfl⟩ : ∃ j, k = j + 1 := ⟨k - 1, by omega⟩
      rw [run_succ rfl rfl, body_eq (nt := 69) (fn := Go.Proofs.Tryz.f3) (by kernel_rfl) rfl rfl rfl rfl rfl rfl rfl rfl]
      simp -implicitDefEqProofs only [Nat.add_sub_cancel, decide_true, Policy.encO, enc_Fact, enc_Includes, enc_Policy, enc_Request] at s0 s1
      simp -implicitDefEqProofs only [W3, ↓D3, ↓DA, ↓DP, ↓DC, QX, Go.Proofs.Tryz.f3, Policy.encO, enc_Fact, enc_Includes, enc_Policy, enc_Request, s0, s1, d0, bne, SH, plan_3_11, plan_3_15, plan_3_22, Int.reduceToNat, id_eq, Int.reduceBEq, Int.reduceLE, Int.reduceLT, Nat.reduceAdd, Nat.reduceEqDiff, Nat.reduceLT, Nat.reduceLeDiff, Nat.reduceMul, Nat.reduceSub, reduceIte]
      repeat' (split <;> (rename_i h; (try simp -implicitDefEqProofs only [Bool.not_eq_true', Bool.not_eq_false', decide_eq_true_eq, decide_eq_false_iff_not] at h); (try simp -implicitDefEqProofs only [W3, ↓D3, ↓DA, ↓DP, ↓DC, QX, *, Policy.encO, enc_Fact, enc_Includes, enc_Policy, enc_Request, s0, s1, d0, bne, SH, plan_3_11, plan_3_15, plan_3_22, Int.reduceToNat, id_eq, Int.reduceBEq, Int.reduceLE, Int.reduceLT, Nat.reduceAdd, Nat.reduceEqDiff, Nat.reduceLT, Nat.reduceLeDiff, Nat.reduceMul, Nat.reduceSub, reduceIte])))
  ·
    have s0 := r_laws_szIncludesS (fl := false) (k - 1) x0 (by omega) h0 1048576 (by omega) (by omega)
    have z0 : left 1048576 (x0.length) = -1 := left_gt (by omega)
    rw [z0] at s0
    obtain ⟨k, rfl⟩ : ∃ j, k = j + 1 := ⟨k - 1, by omega⟩
    rw [run_succ rfl rfl, body_eq (nt := 69) (fn := Go.Proofs.Tryz.f3) (by kernel_rfl) rfl rfl rfl rfl rfl rfl rfl rfl]
    simp -implicitDefEqProofs only [Nat.add_sub_cancel, decide_true, Policy.encO, enc_Fact, enc_Includes, enc_Policy, enc_Request] at s0
    simp -implicitDefEqProofs only [W3, ↓D3, ↓DA, ↓DP, ↓DC, QX, Go.Proofs.Tryz.f3, Policy.encO, enc_Fact, enc_Includes, enc_Policy, enc_Request, s0, bne, SH, plan_3_11, plan_3_15, plan_3_22, Int.reduceToNat, id_eq, Int.reduceBEq, Int.reduceLE, Int.reduceLT, Nat.reduceAdd, Nat.reduceEqDiff, Nat.reduceLT, Nat.reduceLeDiff, Nat.reduceMul, Nat.reduceSub, reduceIte]
    repeat' (split <;> (rename_i h; (try simp -implicitDefEqProofs only [Bool.not_eq_true', Bool.not_eq_false', decide_eq_true_eq, decide_eq_false_iff_not] at h); (try simp -implicitDefEqProofs only [W3, ↓D3, ↓DA, ↓DP, ↓DC, QX, *, Policy.encO, enc_Fact, enc_Includes, enc_Policy, enc_Request, s0, bne, SH, plan_3_11, plan_3_15, plan_3_22, Int.reduceToNat, id_eq, Int.reduceBEq, Int.reduceLE, Int.reduceLT, Nat.reduceAdd, Nat.reduceEqDiff, Nat.reduceLT, Nat.reduceLeDiff, Nat.reduceMul, Nat.reduceSub, reduceIte])))
end
open Go.ChangeShapes Go.WideShapes Go.ChangeAt Go.RowKit Flat
theorem own : ownKnob Tryz.prog.godebug = none := by kernel_rfl
theorem laidOut : laidOutB Tryz.prog = true := by kernel_rfl
/-- The door's own heap meets the condition. -/
theorem door_met (os : Os) (args : Array Value) : laidMetH Tryz.prog Rows.fnExactReasonOfRow.laid ((World.doorLaid Tryz.prog 24 os).forCall (fun _ _ => 0) ⟨#[], args, []⟩).memory :=
  laidMetH_of_parts3 (fuel := 8) (laidMet_of_run' 8 (by kernel_rfl) (by kernel_rfl)) (by kernel_rfl) (by kernel_rfl)
set_option maxRecDepth 100000 in
theorem lifted (os : Os) (started : os.Started) (H : Type) (enc : TypeId × Value → H) :
    ReturnsInHanded {} Tryz.checked os 3 .any (fun w args => (Rows.fnExactReasonOfSpec.pre enc Tryz.prog Tryz.f3 [] false w args ∧ laidMetH Tryz.prog Rows.fnExactReasonOfRow.laid w) ∧ sizedMet enc Tryz.prog Tryz.f3 (OpenSpec.ofChange Rows.fnExactReasonOfSpec) false w args) (Rows.fnExactReasonOfSpec.post enc Tryz.prog Tryz.f3 false true false false) := by
  refine returnsInHanded_of_change_and (C := Tryz.checked) (X := fun w _ => laidMetH Tryz.prog Rows.fnExactReasonOfRow.laid w) (fun _ _ _ hh h => h.of_heap hh) own started (by kernel_rfl) Tryz.func3
    (ChangeSpec.witness_shaped (enc := enc) (C := Tryz.checked) (os := os) (X := fun w _ => laidMetH Tryz.prog Rows.fnExactReasonOfRow.laid w) false (World.doorLaid Tryz.prog 24 os) #[.slice none 0 0, .slice none 0 0, .agg #[.int .i64 0, .slice none 0 0], .agg #[.int .i64 0, .int .i64 0, .int .i64 0, .int .i64 0, .int .i64 0, .int .i64 0]] 8 rfl (World.shaped_of_RefB (by kernel_rfl) (by kernel_rfl)) (by kernel_rfl) (by kernel_rfl) (by kernel_rfl) (door_met os _)) ?_
  intro W base args ds gs before hval0 hW hcnd hsz0 hL _
  have hsz : (DataW.weightsEach Tryz.prog (Tryz.f3.params.toList ++ Rows.fnExactReasonOfSpec.plain.varTypes Tryz.prog) (ds ++ gs)).all (· ≤ reachBytes) = true := hsz0
  have hval : ∀ (j : Nat) t v, Tryz.f3.params[j]? = some t → args[j]? = some v → Value.okWide Tryz.prog W .any base t v := hval0
  have hW' := hW
  obtain ⟨p, q, hA0, hV, rfl, hfz, hnd⟩ := hW
  have hA : DataW.TrodAll enc Tryz.prog W 0 (fun _ => true) true Tryz.f3.params.toList args.toList ds p := hA0
  rw [Tryz.params3] at hA hval hsz
  obtain ⟨v0, vs0, d0, ds0, p0, q0, hargs, rfl, rfl, h0, r0⟩ := trodAll_cons hA
  obtain ⟨v1, vs1, d1, ds1, p1, q1, rfl, rfl, rfl, h1, r1⟩ := trodAll_cons r0
  obtain ⟨v2, vs2, d2, ds2, p2, q2, rfl, rfl, rfl, h2, r2⟩ := trodAll_cons r1
  obtain ⟨v3, vs3, d3, ds3, p3, q3, rfl, rfl, rfl, h3, r3⟩ := trodAll_cons r2
  obtain ⟨rfl, rfl, rfl⟩ := trodAll_nil r3
  obtain rfl : args = #[v0, v1, v2, v3] := by cases args; simp_all
  obtain ⟨rfl, rfl⟩ := trodVars_none hV
  have lt0 : ∀ x ∈ p0, x.block < W.heap.size := by obtain ⟨m, hm⟩ := h0; exact DataW.trod_lt m _ _ _ hm
  obtain ⟨n0, a0, ty0, ro0⟩ := handed (P := Tryz.prog) (ts := [22, 68, 3]) (by kernel_rfl) (by kernel_rfl) (hval 0 22 v0 rfl rfl) h0 (weights_each hsz 0 22 d0 rfl rfl)
  obtain ⟨x0, rfl, fit0⟩ := shape_22 n0 a0 ty0
  have lt1 : ∀ x ∈ p1, x.block < W.heap.size := by obtain ⟨m, hm⟩ := h1; exact DataW.trod_lt m _ _ _ hm
  obtain ⟨n1, a1, ty1, ro1⟩ := handed (P := Tryz.prog) (ts := [23, 72, 3]) (by kernel_rfl) (by kernel_rfl) (hval 1 23 v1 rfl rfl) h1 (weights_each hsz 1 23 d1 rfl rfl)
  obtain ⟨x1, rfl, fit1⟩ := shape_23 n1 a1 ty1
  have lt2 : ∀ x ∈ p2, x.block < W.heap.size := by obtain ⟨m, hm⟩ := h2; exact DataW.trod_lt m _ _ _ hm
  obtain ⟨n2, a2, ty2, ro2⟩ := handed (P := Tryz.prog) (ts := [26, 3, 24, 87, 85, 83]) (by kernel_rfl) (by kernel_rfl) (hval 2 26 v2 rfl rfl) h2 (weights_each hsz 2 26 d2 rfl rfl)
  obtain ⟨x2, rfl, fit2⟩ := shape_26 n2 a2 ty2
  have lt3 : ∀ x ∈ p3, x.block < W.heap.size := by obtain ⟨m, hm⟩ := h3; exact DataW.trod_lt m _ _ _ hm
  obtain ⟨n3, a3, ty3, ro3⟩ := handed (P := Tryz.prog) (ts := [28, 3]) (by kernel_rfl) (by kernel_rfl) (hval 3 28 v3 rfl rfl) h3 (weights_each hsz 3 28 d3 rfl rfl)
  obtain ⟨x3, rfl⟩ := shape_28 n3 a3 ty3
  refine (law_ok mixed sound (ext := noExt) hext (reckoned x0 x1 x2 x3 fit0 fit1 fit2 _ (Nat.le_refl _)) (args := #[v0, v1, v2, v3]) (W := W) rfl (fun j hj => by
    rcases j with _ | _ | _ | _ | j
    · exact ro0
    · exact ro1
    · exact ro2
    · exact ro3
    · simp at hj; omega)).mono fun e W' ⟨he, bel⟩ => ?_
  subst he
  exact ⟨_, rfl, _, _, _, [], _, [], hW', trodAll_mk1 (shut_bool Tryz.underlying4 _), (trodAll_cons_mk (Below.trod laidOut (by kernel_rfl) (of_decide_eq_true (by kernel_rfl)) h0 bel lt0) (trodAll_cons_mk (Below.trod laidOut (by kernel_rfl) (of_decide_eq_true (by kernel_rfl)) h1 bel lt1) (trodAll_cons_mk (Below.trod laidOut (by kernel_rfl) (of_decide_eq_true (by kernel_rfl)) h2 bel lt2) (trodAll_cons_mk (Below.trod laidOut (by kernel_rfl) (of_decide_eq_true (by kernel_rfl)) h3 bel lt3) trodAll_mk0)))), rfl, bel.frame _, fun h => by cases h⟩
theorem over : Rows.fnExactReasonOfRow.holds Tryz.pinned (OpenSpec.ofChange Rows.fnExactReasonOfSpec) :=
  OpenClaim.holds_of_wide 3 Tryz.f3 rfl rfl rfl rfl rfl rfl rfl ⟨rfl, rfl, rfl, rfl, rfl⟩ rfl rfl rfl rfl rfl (by kernel_rfl) Tryz.func3 (by kernel_rfl)
    (of_decide_eq_true (by kernel_rfl)) (by unfold Func.isWrapper; first | (rw [if_pos (by decide +kernel)]; kernel_rfl) | (rw [if_neg (by decide +kernel)]; exact ⟨rfl, rfl⟩))
    (fun os started H enc _ => lifted os started H enc)
theorem carded : Rows.FnExactReasonOfCardSaid :=
  Claim7.holds_tied_plain_at .later [] [.data, .data, .data] true (true, "5dfe7be4facaa6ef53913a5094d30a68aaefd3c7d5102dbfff0fd459e050bb37") false
    over (fun _ h => by cases h) (by kernel_rfl) (fun _ h => by cases h) fnExactReasonOf_row_tie rfl ⟨rfl, rfl⟩ (by kernel_rfl) rfl
    (fun f fn hf hfn => by
      obtain rfl : f = 3 := Option.some.inj ((show Tryz.prog.funcNamed "loop.example/g00594/laws.FnExactReasonOf" = some 3 by kernel_rfl).symm.trans hf) |>.symm
      obtain rfl : fn = Tryz.f3 := (Option.some.inj (Tryz.func3.symm.trans hfn)).symm
      exact ⟨by kernel_rfl, fun j t ht => by
        rw [Tryz.params3] at ht
        have hm : t ∈ [22, 23, 26, 28] := by simpa using Array.mem_of_getElem? ht
        have hall : ([22, 23, 26, 28].all fun u => !Tryz.prog.wantsStandIn u) = true := by kernel_rfl
        exact (show Tryz.prog.wantsStandIn t = false by simpa using List.all_eq_true.1 hall t hm)⟩)
    (by kernel_rfl)
#print axioms carded
end Go.Proofs.YtaojmienjikfbaaGreatDoor.fnExactReasonOf
namespace Go.Proofs.YtaojmienjikfbaaGreatDoor
/-- The card, under a short name, for the claim. -/
theorem fnExactReasonOf_holds : Rows.FnExactReasonOfCardSaid := fnExactReasonOf.carded
end Go.Proofs.YtaojmienjikfbaaGreatDoor
