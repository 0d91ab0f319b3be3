/-
Facts put into stores: the program's side.
-/
import Derived.Test.YtggkeechdakccaaEqPG
import Derived.Test.YtggkeechdakccaaEqU
import Derived.Test.YtggkeechdakccaaEqDR
set_option linter.unusedVariables false
set_option linter.unusedSimpArgs false
set_option maxRecDepth 10000
namespace Go.Proofs.Ytggkeechdakccaa.Flat
def claimPairs (a b : Fact) : List (Int × Int) := [(a.kind, b.kind), (a.subject, b.subject), (a.value, b.value), (a.issuer, b.issuer)]
def cmpStep (_ : Nat) (p : Int × Int) (_ : Unit) : Sum Int Unit := if p.1 < p.2 then .inl (-1) else if p.2 < p.1 then .inl 1 else .inr ()
def cmpClaims (a b : Fact) : Int := loopL cmpStep (fun _ => 0) 0 (claimPairs a b) ()
theorem opQ_alloc {Φ : Phi} {nid : Nat} {t : TypeId} {st : St} {dst : Option Nat} {type : TypeId} {pos : String} {after : Array Edge} {guard : Option (Nat × Bool)} :
    evOpQ E Φ nid { dst, op := .alloc t, type, pos, after, guard } st = evAlloc E.P t nid dst st := rfl
theorem pairs_cases {a b : Fact} {pre r : List (Int × Int)} {c : Int × Int} (h : claimPairs a b = pre ++ c :: r) :
    (pre.length = 0 ∧ c = (a.kind, b.kind)) ∨ (pre.length = 1 ∧ c = (a.subject, b.subject)) ∨ (pre.length = 2 ∧ c = (a.value, b.value)) ∨ (pre.length = 3 ∧ c = (a.issuer, b.issuer)) := by
  unfold claimPairs at h
  rcases pre with _ | ⟨q0, _ | ⟨q1, _ | ⟨q2, _ | ⟨q3, pre⟩⟩⟩⟩ <;> simp_all
set_option maxHeartbeats 4000000 in
theorem r_impl_compareClaims (k : Nat) (hk : 281474976710656 + 1 ≤ k) (a b : Fact) : run E noExt k 30 [a.enc true, b.enc true] [] = some (.int .i64 (cmpClaims a b), []) := by
  obtain ⟨k, rfl⟩ : ∃ j, k = j + 1 := ⟨k - 1, by omega⟩
  rw [run_succ rfl rfl, body_eq (nt := 46) (fn := Go.Proofs.Try.f30) (by kernel_rfl) rfl rfl rfl rfl rfl rfl rfl rfl]
  simp -implicitDefEqProofs only [W3, ↓D3, ↓DA, ↓DP, ↓DC, enc_Fact, Go.Proofs.Try.f30, opQ_alloc, gateAt_still, gateT_true, still_alloc, runPlan_still, opS_store, slidP_ptr, away_ptr, away_agg, away_F, away_int, away_bool, away_nils, away_undef, away_sl, away_own, plan_30_1, plan_30_5, plan_30_7, SH, Int.reduceToNat, id_eq, Int.reduceBEq, Int.reduceLE, Int.reduceLT, Nat.reduceAdd, Nat.reduceEqDiff, Nat.reduceLT, Nat.reduceLeDiff, Nat.reduceMul, Nat.reduceSub, reduceIte]
  rw [ev_loop]
  refine Eq.trans (loop_list (Q := fun (g : Int) z => thenEnd E.P [] _ 0 (thenEv E _ _ _ _ _ (outOf 0 z)) = some (.int .i64 g, [])) (claimPairs a b) cmpStep (fun _ => 0)
    (fun i _ => { sl := [(5, .ptr 0 0), (6, .ptr 1 0), (26, .int .i64 (i : Nat))], bx := [(0, [.int .i64 a.kind, .int .i64 a.subject, .int .i64 a.value, .int .i64 a.issuer]), (1, [.int .i64 b.kind, .int .i64 b.subject, .int .i64 b.value, .int .i64 b.issuer])], nx := 2, nt := 46 }) (fun _ _ => True) () ?_ ?_ (by simp [claimPairs]; omega) trivial ?_) rfl
  · intro _ _
    have hl4 : (claimPairs a b).length = 4 := rfl
    rw [hl4]
    have n4 : ((4 : Nat) : Int) = 4 := rfl
    have n44 : ¬ (4 : Int) < 4 := by omega
    simp -implicitDefEqProofs only [W3, ↓D3, ↓DA, ↓DP, ↓DC, QX, n4, n44, SH, leaf_some, isNormal, Int.reduceToNat, id_eq, Int.reduceBEq, Int.reduceLE, Int.reduceLT, Nat.reduceAdd, Nat.reduceEqDiff, Nat.reduceLT, Nat.reduceLeDiff, Nat.reduceMul, Nat.reduceSub, reduceIte]
    repeat' (split <;> (rename_i h; (try simp -implicitDefEqProofs only [Bool.not_eq_true', Bool.not_eq_false', decide_eq_true_eq, decide_eq_false_iff_not] at h); (try simp -implicitDefEqProofs only [W3, ↓D3, ↓DA, ↓DP, ↓DC, QX, *, n4, n44, SH, leaf_some, isNormal, Int.reduceToNat, id_eq, Int.reduceBEq, Int.reduceLE, Int.reduceLT, Nat.reduceAdd, Nat.reduceEqDiff, Nat.reduceLT, Nat.reduceLeDiff, Nat.reduceMul, Nat.reduceSub, reduceIte])))
  · intro pre c r _ hs' _
    rcases pairs_cases hs' with ⟨h, rfl⟩ | ⟨h, rfl⟩ | ⟨h, rfl⟩ | ⟨h, rfl⟩
    all_goals
      rw [h]
      clear hs'
      simp -implicitDefEqProofs only [cmpStep, Nat.reduceAdd]
      have n0 : ((0 : Nat) : Int) = 0 := rfl
      have n1 : ((1 : Nat) : Int) = 1 := rfl
      have n2 : ((2 : Nat) : Int) = 2 := rfl
      have n3 : ((3 : Nat) : Int) = 3 := rfl
      have n4 : ((4 : Nat) : Int) = 4 := rfl
      simp -implicitDefEqProofs only [n0, n1, n2, n3, n4]
      have w1 : IntKind.i64.wrap ((0 : Int) + 1) = 1 := by decide
      have w2 : IntKind.i64.wrap ((1 : Int) + 1) = 2 := by decide
      have w3 : IntKind.i64.wrap ((2 : Int) + 1) = 3 := by decide
      have w4 : IntKind.i64.wrap ((3 : Int) + 1) = 4 := by decide
    · rcases Int.lt_trichotomy a.kind b.kind with h1 | h1 | h1
      · have h2 : ¬ b.kind < a.kind := by omega
        simp -implicitDefEqProofs only [W3, ↓D3, ↓DA, ↓DP, ↓DC, QX, h1, h2, n4, w1, w2, w3, w4, Int.reduceToNat, Int.reduceLT, Int.reduceLE, Nat.reduceMul, plan_30_1, plan_30_5, plan_30_7, SH, keep_30_3, leaf_some, isNormal, id_eq, Int.reduceBEq, Nat.reduceAdd, Nat.reduceEqDiff, Nat.reduceLT, Nat.reduceLeDiff, Nat.reduceSub, reduceIte]
        repeat' (split <;> (rename_i h; (try simp -implicitDefEqProofs only [Bool.not_eq_true', Bool.not_eq_false', decide_eq_true_eq, decide_eq_false_iff_not] at h); (try simp -implicitDefEqProofs only [W3, ↓D3, ↓DA, ↓DP, ↓DC, QX, *, h1, h2, n4, w1, w2, w3, w4, Int.reduceToNat, Int.reduceLT, Int.reduceLE, Nat.reduceMul, plan_30_1, plan_30_5, plan_30_7, SH, keep_30_3, leaf_some, isNormal, id_eq, Int.reduceBEq, Nat.reduceAdd, Nat.reduceEqDiff, Nat.reduceLT, Nat.reduceLeDiff, Nat.reduceSub, reduceIte])))
      · have h2 : ¬ b.kind < a.kind := by omega
        have h3 : ¬ a.kind < b.kind := by omega
        simp -implicitDefEqProofs only [W3, ↓D3, ↓DA, ↓DP, ↓DC, QX, h2, h3, n4, w1, w2, w3, w4, Int.reduceToNat, Int.reduceLT, Int.reduceLE, Nat.reduceMul, plan_30_1, plan_30_5, plan_30_7, SH, keep_30_3, leaf_some, isNormal, id_eq, Int.reduceBEq, Nat.reduceAdd, Nat.reduceEqDiff, Nat.reduceLT, Nat.reduceLeDiff, Nat.reduceSub, reduceIte]
        repeat' (split <;> (rename_i h; (try simp -implicitDefEqProofs only [Bool.not_eq_true', Bool.not_eq_false', decide_eq_true_eq, decide_eq_false_iff_not] at h); (try simp -implicitDefEqProofs only [W3, ↓D3, ↓DA, ↓DP, ↓DC, QX, *, h2, h3, n4, w1, w2, w3, w4, Int.reduceToNat, Int.reduceLT, Int.reduceLE, Nat.reduceMul, plan_30_1, plan_30_5, plan_30_7, SH, keep_30_3, leaf_some, isNormal, id_eq, Int.reduceBEq, Nat.reduceAdd, Nat.reduceEqDiff, Nat.reduceLT, Nat.reduceLeDiff, Nat.reduceSub, reduceIte])))
      · have h3 : ¬ a.kind < b.kind := by omega
        simp -implicitDefEqProofs only [W3, ↓D3, ↓DA, ↓DP, ↓DC, QX, h1, h3, n4, w1, w2, w3, w4, Int.reduceToNat, Int.reduceLT, Int.reduceLE, Nat.reduceMul, plan_30_1, plan_30_5, plan_30_7, SH, keep_30_3, leaf_some, isNormal, id_eq, Int.reduceBEq, Nat.reduceAdd, Nat.reduceEqDiff, Nat.reduceLT, Nat.reduceLeDiff, Nat.reduceSub, reduceIte]
        repeat' (split <;> (rename_i h; (try simp -implicitDefEqProofs only [Bool.not_eq_true', Bool.not_eq_false', decide_eq_true_eq, decide_eq_false_iff_not] at h); (try simp -implicitDefEqProofs only [W3, ↓D3, ↓DA, ↓DP, ↓DC, QX, *, h1, h3, n4, w1, w2, w3, w4, Int.reduceToNat, Int.reduceLT, Int.reduceLE, Nat.reduceMul, plan_30_1, plan_30_5, plan_30_7, SH, keep_30_3, leaf_some, isNormal, id_eq, Int.reduceBEq, Nat.reduceAdd, Nat.reduceEqDiff, Nat.reduceLT, Nat.reduceLeDiff, Nat.reduceSub, reduceIte])))
    · rcases Int.lt_trichotomy a.subject b.subject with h1 | h1 | h1
      · have h2 : ¬ b.subject < a.subject := by omega
        simp -implicitDefEqProofs only [W3, ↓D3, ↓DA, ↓DP, ↓DC, QX, h1, h2, n4, w1, w2, w3, w4, Int.reduceToNat, Int.reduceLT, Int.reduceLE, Nat.reduceMul, plan_30_1, plan_30_5, plan_30_7, SH, keep_30_3, leaf_some, isNormal, id_eq, Int.reduceBEq, Nat.reduceAdd, Nat.reduceEqDiff, Nat.reduceLT, Nat.reduceLeDiff, Nat.reduceSub, reduceIte]
        repeat' (split <;> (rename_i h; (try simp -implicitDefEqProofs only [Bool.not_eq_true', Bool.not_eq_false', decide_eq_true_eq, decide_eq_false_iff_not] at h); (try simp -implicitDefEqProofs only [W3, ↓D3, ↓DA, ↓DP, ↓DC, QX, *, h1, h2, n4, w1, w2, w3, w4, Int.reduceToNat, Int.reduceLT, Int.reduceLE, Nat.reduceMul, plan_30_1, plan_30_5, plan_30_7, SH, keep_30_3, leaf_some, isNormal, id_eq, Int.reduceBEq, Nat.reduceAdd, Nat.reduceEqDiff, Nat.reduceLT, Nat.reduceLeDiff, Nat.reduceSub, reduceIte])))
      · have h2 : ¬ b.subject < a.subject := by omega
        have h3 : ¬ a.subject < b.subject := by omega
        simp -implicitDefEqProofs only [W3, ↓D3, ↓DA, ↓DP, ↓DC, QX, h2, h3, n4, w1, w2, w3, w4, Int.reduceToNat, Int.reduceLT, Int.reduceLE, Nat.reduceMul, plan_30_1, plan_30_5, plan_30_7, SH, keep_30_3, leaf_some, isNormal, id_eq, Int.reduceBEq, Nat.reduceAdd, Nat.reduceEqDiff, Nat.reduceLT, Nat.reduceLeDiff, Nat.reduceSub, reduceIte]
        repeat' (split <;> (rename_i h; (try simp -implicitDefEqProofs only [Bool.not_eq_true', Bool.not_eq_false', decide_eq_true_eq, decide_eq_false_iff_not] at h); (try simp -implicitDefEqProofs only [W3, ↓D3, ↓DA, ↓DP, ↓DC, QX, *, h2, h3, n4, w1, w2, w3, w4, Int.reduceToNat, Int.reduceLT, Int.reduceLE, Nat.reduceMul, plan_30_1, plan_30_5, plan_30_7, SH, keep_30_3, leaf_some, isNormal, id_eq, Int.reduceBEq, Nat.reduceAdd, Nat.reduceEqDiff, Nat.reduceLT, Nat.reduceLeDiff, Nat.reduceSub, reduceIte])))
      · have h3 : ¬ a.subject < b.subject := by omega
        simp -implicitDefEqProofs only [W3, ↓D3, ↓DA, ↓DP, ↓DC, QX, h1, h3, n4, w1, w2, w3, w4, Int.reduceToNat, Int.reduceLT, Int.reduceLE, Nat.reduceMul, plan_30_1, plan_30_5, plan_30_7, SH, keep_30_3, leaf_some, isNormal, id_eq, Int.reduceBEq, Nat.reduceAdd, Nat.reduceEqDiff, Nat.reduceLT, Nat.reduceLeDiff, Nat.reduceSub, reduceIte]
        repeat' (split <;> (rename_i h; (try simp -implicitDefEqProofs only [Bool.not_eq_true', Bool.not_eq_false', decide_eq_true_eq, decide_eq_false_iff_not] at h); (try simp -implicitDefEqProofs only [W3, ↓D3, ↓DA, ↓DP, ↓DC, QX, *, h1, h3, n4, w1, w2, w3, w4, Int.reduceToNat, Int.reduceLT, Int.reduceLE, Nat.reduceMul, plan_30_1, plan_30_5, plan_30_7, SH, keep_30_3, leaf_some, isNormal, id_eq, Int.reduceBEq, Nat.reduceAdd, Nat.reduceEqDiff, Nat.reduceLT, Nat.reduceLeDiff, Nat.reduceSub, reduceIte])))
    · rcases Int.lt_trichotomy a.value b.value with h1 | h1 | h1
      · have h2 : ¬ b.value < a.value := by omega
        simp -implicitDefEqProofs only [W3, ↓D3, ↓DA, ↓DP, ↓DC, QX, h1, h2, n4, w1, w2, w3, w4, Int.reduceToNat, Int.reduceLT, Int.reduceLE, Nat.reduceMul, plan_30_1, plan_30_5, plan_30_7, SH, keep_30_3, leaf_some, isNormal, id_eq, Int.reduceBEq, Nat.reduceAdd, Nat.reduceEqDiff, Nat.reduceLT, Nat.reduceLeDiff, Nat.reduceSub, reduceIte]
        repeat' (split <;> (rename_i h; (try simp -implicitDefEqProofs only [Bool.not_eq_true', Bool.not_eq_false', decide_eq_true_eq, decide_eq_false_iff_not] at h); (try simp -implicitDefEqProofs only [W3, ↓D3, ↓DA, ↓DP, ↓DC, QX, *, h1, h2, n4, w1, w2, w3, w4, Int.reduceToNat, Int.reduceLT, Int.reduceLE, Nat.reduceMul, plan_30_1, plan_30_5, plan_30_7, SH, keep_30_3, leaf_some, isNormal, id_eq, Int.reduceBEq, Nat.reduceAdd, Nat.reduceEqDiff, Nat.reduceLT, Nat.reduceLeDiff, Nat.reduceSub, reduceIte])))
      · have h2 : ¬ b.value < a.value := by omega
        have h3 : ¬ a.value < b.value := by omega
        simp -implicitDefEqProofs only [W3, ↓D3, ↓DA, ↓DP, ↓DC, QX, h2, h3, n4, w1, w2, w3, w4, Int.reduceToNat, Int.reduceLT, Int.reduceLE, Nat.reduceMul, plan_30_1, plan_30_5, plan_30_7, SH, keep_30_3, leaf_some, isNormal, id_eq, Int.reduceBEq, Nat.reduceAdd, Nat.reduceEqDiff, Nat.reduceLT, Nat.reduceLeDiff, Nat.reduceSub, reduceIte]
        repeat' (split <;> (rename_i h; (try simp -implicitDefEqProofs only [Bool.not_eq_true', Bool.not_eq_false', decide_eq_true_eq, decide_eq_false_iff_not] at h); (try simp -implicitDefEqProofs only [W3, ↓D3, ↓DA, ↓DP, ↓DC, QX, *, h2, h3, n4, w1, w2, w3, w4, Int.reduceToNat, Int.reduceLT, Int.reduceLE, Nat.reduceMul, plan_30_1, plan_30_5, plan_30_7, SH, keep_30_3, leaf_some, isNormal, id_eq, Int.reduceBEq, Nat.reduceAdd, Nat.reduceEqDiff, Nat.reduceLT, Nat.reduceLeDiff, Nat.reduceSub, reduceIte])))
      · have h3 : ¬ a.value < b.value := by omega
        simp -implicitDefEqProofs only [W3, ↓D3, ↓DA, ↓DP, ↓DC, QX, h1, h3, n4, w1, w2, w3, w4, Int.reduceToNat, Int.reduceLT, Int.reduceLE, Nat.reduceMul, plan_30_1, plan_30_5, plan_30_7, SH, keep_30_3, leaf_some, isNormal, id_eq, Int.reduceBEq, Nat.reduceAdd, Nat.reduceEqDiff, Nat.reduceLT, Nat.reduceLeDiff, Nat.reduceSub, reduceIte]
        repeat' (split <;> (rename_i h; (try simp -implicitDefEqProofs only [Bool.not_eq_true', Bool.not_eq_false', decide_eq_true_eq, decide_eq_false_iff_not] at h); (try simp -implicitDefEqProofs only [W3, ↓D3, ↓DA, ↓DP, ↓DC, QX, *, h1, h3, n4, w1, w2, w3, w4, Int.reduceToNat, Int.reduceLT, Int.reduceLE, Nat.reduceMul, plan_30_1, plan_30_5, plan_30_7, SH, keep_30_3, leaf_some, isNormal, id_eq, Int.reduceBEq, Nat.reduceAdd, Nat.reduceEqDiff, Nat.reduceLT, Nat.reduceLeDiff, Nat.reduceSub, reduceIte])))
    · rcases Int.lt_trichotomy a.issuer b.issuer with h1 | h1 | h1
      · have h2 : ¬ b.issuer < a.issuer := by omega
        simp -implicitDefEqProofs only [W3, ↓D3, ↓DA, ↓DP, ↓DC, QX, h1, h2, n4, w1, w2, w3, w4, Int.reduceToNat, Int.reduceLT, Int.reduceLE, Nat.reduceMul, plan_30_1, plan_30_5, plan_30_7, SH, keep_30_3, leaf_some, isNormal, id_eq, Int.reduceBEq, Nat.reduceAdd, Nat.reduceEqDiff, Nat.reduceLT, Nat.reduceLeDiff, Nat.reduceSub, reduceIte]
        repeat' (split <;> (rename_i h; (try simp -implicitDefEqProofs only [Bool.not_eq_true', Bool.not_eq_false', decide_eq_true_eq, decide_eq_false_iff_not] at h); (try simp -implicitDefEqProofs only [W3, ↓D3, ↓DA, ↓DP, ↓DC, QX, *, h1, h2, n4, w1, w2, w3, w4, Int.reduceToNat, Int.reduceLT, Int.reduceLE, Nat.reduceMul, plan_30_1, plan_30_5, plan_30_7, SH, keep_30_3, leaf_some, isNormal, id_eq, Int.reduceBEq, Nat.reduceAdd, Nat.reduceEqDiff, Nat.reduceLT, Nat.reduceLeDiff, Nat.reduceSub, reduceIte])))
      · have h2 : ¬ b.issuer < a.issuer := by omega
        have h3 : ¬ a.issuer < b.issuer := by omega
        simp -implicitDefEqProofs only [W3, ↓D3, ↓DA, ↓DP, ↓DC, QX, h2, h3, n4, w1, w2, w3, w4, Int.reduceToNat, Int.reduceLT, Int.reduceLE, Nat.reduceMul, plan_30_1, plan_30_5, plan_30_7, SH, keep_30_3, leaf_some, isNormal, id_eq, Int.reduceBEq, Nat.reduceAdd, Nat.reduceEqDiff, Nat.reduceLT, Nat.reduceLeDiff, Nat.reduceSub, reduceIte]
        repeat' (split <;> (rename_i h; (try simp -implicitDefEqProofs only [Bool.not_eq_true', Bool.not_eq_false', decide_eq_true_eq, decide_eq_false_iff_not] at h); (try simp -implicitDefEqProofs only [W3, ↓D3, ↓DA, ↓DP, ↓DC, QX, *, h2, h3, n4, w1, w2, w3, w4, Int.reduceToNat, Int.reduceLT, Int.reduceLE, Nat.reduceMul, plan_30_1, plan_30_5, plan_30_7, SH, keep_30_3, leaf_some, isNormal, id_eq, Int.reduceBEq, Nat.reduceAdd, Nat.reduceEqDiff, Nat.reduceLT, Nat.reduceLeDiff, Nat.reduceSub, reduceIte])))
      · have h3 : ¬ a.issuer < b.issuer := by omega
        simp -implicitDefEqProofs only [W3, ↓D3, ↓DA, ↓DP, ↓DC, QX, h1, h3, n4, w1, w2, w3, w4, Int.reduceToNat, Int.reduceLT, Int.reduceLE, Nat.reduceMul, plan_30_1, plan_30_5, plan_30_7, SH, keep_30_3, leaf_some, isNormal, id_eq, Int.reduceBEq, Nat.reduceAdd, Nat.reduceEqDiff, Nat.reduceLT, Nat.reduceLeDiff, Nat.reduceSub, reduceIte]
        repeat' (split <;> (rename_i h; (try simp -implicitDefEqProofs only [Bool.not_eq_true', Bool.not_eq_false', decide_eq_true_eq, decide_eq_false_iff_not] at h); (try simp -implicitDefEqProofs only [W3, ↓D3, ↓DA, ↓DP, ↓DC, QX, *, h1, h3, n4, w1, w2, w3, w4, Int.reduceToNat, Int.reduceLT, Int.reduceLE, Nat.reduceMul, plan_30_1, plan_30_5, plan_30_7, SH, keep_30_3, leaf_some, isNormal, id_eq, Int.reduceBEq, Nat.reduceAdd, Nat.reduceEqDiff, Nat.reduceLT, Nat.reduceLeDiff, Nat.reduceSub, reduceIte])))
  · simp -implicitDefEqProofs only [firstRegion]
    rw [keep_30_3]
    simp -implicitDefEqProofs only [W3, ↓D3, ↓DA, ↓DP, ↓DC, Int.reduceToNat, id_eq, Int.reduceBEq, Int.reduceLE, Int.reduceLT, SH, Nat.reduceAdd, Nat.reduceEqDiff, Nat.reduceLT, Nat.reduceLeDiff, Nat.reduceMul, Nat.reduceSub, reduceIte]
theorem cmp_eq (a b : Fact) : decide (cmpClaims a b < 0) = factBefore a b ∧ (cmpClaims a b == 0) = sameClaim a b := by
  unfold cmpClaims claimPairs factBefore sameClaim
  simp -implicitDefEqProofs only [loopL, cmpStep]
  rcases Int.lt_trichotomy a.kind b.kind with h1 | h1 | h1
  · have e1 : (a.kind == b.kind) = false := by simp; omega
    simp [e1, h1]
  · have e1 : (a.kind == b.kind) = true := by simp [h1]
    rcases Int.lt_trichotomy a.subject b.subject with h2 | h2 | h2
    · have e2 : (a.subject == b.subject) = false := by simp; omega
      simp [e1, e2, h1, h2]
    · have e2 : (a.subject == b.subject) = true := by simp [h2]
      rcases Int.lt_trichotomy a.value b.value with h3 | h3 | h3
      · have e3 : (a.value == b.value) = false := by simp; omega
        simp [e1, e2, e3, h1, h2, h3]
      · have e3 : (a.value == b.value) = true := by simp [h3]
        rcases Int.lt_trichotomy a.issuer b.issuer with h4 | h4 | h4
        · have e4 : (a.issuer == b.issuer) = false := by simp; omega
          simp [e1, e2, e3, e4, h1, h2, h3, h4]
        · have e4 : (a.issuer == b.issuer) = true := by simp [h4]
          simp [e1, e2, e3, e4, h1, h2, h3, h4]
        · have e4 : (a.issuer == b.issuer) = false := by simp; omega
          have h5 : ¬ a.issuer < b.issuer := by omega
          simp [e1, e2, e3, e4, h1, h2, h3, h4, h5]
      · have e3 : (a.value == b.value) = false := by simp; omega
        have h5 : ¬ a.value < b.value := by omega
        simp [e1, e2, e3, h1, h2, h3, h5]
    · have e2 : (a.subject == b.subject) = false := by simp; omega
      have h5 : ¬ a.subject < b.subject := by omega
      simp [e1, e2, h1, h2, h5]
  · have e1 : (a.kind == b.kind) = false := by simp; omega
    have h5 : ¬ a.kind < b.kind := by omega
    simp [e1, h1, h5]
theorem r_impl_FactBefore (k : Nat) (hk : 281474976710656 + 2 ≤ k) (a b : Fact) : run E noExt k 22 [a.enc true, b.enc true] [] = some (.bool (factBefore a b), []) := by
  have c1 := r_impl_compareClaims (k - 1) (by omega) a b
  have h1 := (cmp_eq a b).1
  obtain ⟨k, rfl⟩ : ∃ j, k = j + 1 := ⟨k - 1, by omega⟩
  rw [run_succ rfl rfl, body_eq (nt := 9) (fn := Go.Proofs.Try.f22) (by kernel_rfl) rfl rfl rfl rfl rfl rfl rfl rfl]
  simp -implicitDefEqProofs only [Nat.add_sub_cancel, enc_Fact] at c1
  simp -implicitDefEqProofs only [W3, ↓D3, ↓DA, ↓DP, ↓DC, enc_Fact, Go.Proofs.Try.f22, c1, h1, SH, Int.reduceToNat, id_eq, Int.reduceBEq, Int.reduceLE, Int.reduceLT, Nat.reduceAdd, Nat.reduceEqDiff, Nat.reduceLT, Nat.reduceLeDiff, Nat.reduceMul, Nat.reduceSub, reduceIte]
theorem r_impl_SameClaim (k : Nat) (hk : 281474976710656 + 2 ≤ k) (a b : Fact) : run E noExt k 12 [a.enc true, b.enc true] [] = some (.bool (sameClaim a b), []) := by
  have c1 := r_impl_compareClaims (k - 1) (by omega) a b
  have h1 := (cmp_eq a b).2
  obtain ⟨k, rfl⟩ : ∃ j, k = j + 1 := ⟨k - 1, by omega⟩
  rw [run_succ rfl rfl, body_eq (nt := 9) (fn := Go.Proofs.Try.f12) (by kernel_rfl) rfl rfl rfl rfl rfl rfl rfl rfl]
  simp -implicitDefEqProofs only [Nat.add_sub_cancel, enc_Fact] at c1
  simp -implicitDefEqProofs only [W3, ↓D3, ↓DA, ↓DP, ↓DC, enc_Fact, Go.Proofs.Try.f12, c1, h1, SH, Int.reduceToNat, id_eq, Int.reduceBEq, Int.reduceLE, Int.reduceLT, Nat.reduceAdd, Nat.reduceEqDiff, Nat.reduceLT, Nat.reduceLeDiff, Nat.reduceMul, Nat.reduceSub, reduceIte]
theorem r_impl_isLater (k : Nat) (hk : 281474976710656 + 1 ≤ k) (f x : Fact) : run E noExt k 23 [f.enc true, x.enc true] [] = some (.bool (laterF f x), []) := by
  obtain ⟨k, rfl⟩ : ∃ j, k = j + 1 := ⟨k - 1, by omega⟩
  rw [run_succ rfl rfl, body_eq (nt := 24) (fn := Go.Proofs.Try.f23) (by kernel_rfl) rfl rfl rfl rfl rfl rfl rfl rfl]
  unfold laterF
  simp -implicitDefEqProofs only [enc_Fact]
  cases h1 : decide (x.at_ < f.at_) <;> cases h2 : (f.at_ == x.at_) <;> cases h3 : decide (x.until_ < f.until_)
  all_goals
    simp -implicitDefEqProofs only [W3, ↓D3, ↓DA, ↓DP, ↓DC, h1, h2, h3, Go.Proofs.Try.f23, SH, Int.reduceToNat, id_eq, Int.reduceBEq, Int.reduceLE, Int.reduceLT, Nat.reduceAdd, Nat.reduceEqDiff, Nat.reduceLT, Nat.reduceLeDiff, Nat.reduceMul, Nat.reduceSub, reduceIte]
theorem r_impl_copyFacts (k : Nat) (hk : 281474976710656 + 1 ≤ k) (l : List Fact) (hl : l.length ≤ 1048576) : run E noExt k 19 [.sl true (l.map (Fact.enc true))] [] = some (.own 0 false 34 6 (l.map (Fact.enc true)), []) := by
  have hm1 : l.length * 48 ≤ 140737488355328 := by omega
  have hm2 : l.length ≤ 9223372036854775807 := by omega
  have ha := cells_facts l
  have hp := plains_facts l
  simp -implicitDefEqProofs only [↓AV.cells.eq_def] at ha
  obtain ⟨k, rfl⟩ : ∃ j, k = j + 1 := ⟨k - 1, by omega⟩
  rw [run_succ rfl rfl, body_eq (nt := 6) (fn := Go.Proofs.Try.f19) (by kernel_rfl) rfl rfl rfl rfl rfl rfl rfl rfl]
  simp -implicitDefEqProofs only [W3, ↓D3, ↓DA, ↓DP, ↓DC, Go.Proofs.Try.f19, ha, hp, hm1, hm2, SH, Int.reduceToNat, id_eq, Int.reduceBEq, Int.reduceLE, Int.reduceLT, Nat.reduceAdd, Nat.reduceEqDiff, Nat.reduceLT, Nat.reduceLeDiff, Nat.reduceMul, Nat.reduceSub, reduceIte]
theorem r_impl_IsStore (k : Nat) (hk : 281474976710656 + 10 ≤ k) (l : List Fact) (hl : l.length ≤ 140737488355328) : run E noExt k 20 [.sl true (l.map (Fact.enc true))] [] = some (.bool (isStore l), []) := by
  have c1 := fun (f : Fact) => r_impl_IsFact (fl := true) (k - 1) (by omega) f
  have c3 := fun (a b : Fact) => r_impl_FactBefore (k - 1) (by omega) a b
  obtain ⟨k, rfl⟩ : ∃ j, k = j + 1 := ⟨k - 1, by omega⟩
  rw [run_succ rfl rfl, body_eq (nt := 33) (fn := Go.Proofs.Try.f20) (by kernel_rfl) rfl rfl rfl rfl rfl rfl rfl rfl]
  simp -implicitDefEqProofs only [Nat.add_sub_cancel, enc_Fact] at c1 c3
  simp -implicitDefEqProofs only [W1, ↓D1, ↓DC, Go.Proofs.Try.f20, Int.reduceToNat, id_eq, Int.reduceBEq, Int.reduceLE, Int.reduceLT, Nat.reduceAdd, Nat.reduceEqDiff, Nat.reduceLT, Nat.reduceLeDiff, Nat.reduceMul, Nat.reduceSub, reduceIte]
  have fl : Bool := true
  rw [ev_loop]
  refine Eq.trans (loop_list (Q := fun g x => thenEnd E.P [] _ 0 (thenEv E _ _ _ _ _ (outOf 0 x)) = some (.bool g, [])) (l) (storeStep l) (fun _ => decide ((l.length : Int) ≤ 30))
    (fun i b => { sl := [(0, .sl true (l.map (Fact.enc true))), (5, .sl true (l.map (Fact.enc true))), (6, .int .i64 (l.length : Nat)), (7, .int .i64 (i : Nat))], bx := [], nx := 0, nt := 33 }) (fun _ _ => True) (()) ?_ ?_ (by first | omega | (simp; omega)) (trivial) ?_) ?_
  · intro b hb
    simp -implicitDefEqProofs only [W2, ↓D2, ↓DC, QX, leaf_some, isNormal, Int.reduceToNat, id_eq, Int.reduceBEq, Int.reduceLE, Int.reduceLT, Nat.reduceAdd, Nat.reduceEqDiff, Nat.reduceLT, Nat.reduceLeDiff, Nat.reduceMul, Nat.reduceSub, reduceIte]
    repeat' (split <;> (rename_i h; (try simp -implicitDefEqProofs only [Bool.not_eq_true', Bool.not_eq_false', decide_eq_true_eq, decide_eq_false_iff_not] at h); (try simp -implicitDefEqProofs only [W2, ↓D2, ↓DC, QX, *, leaf_some, isNormal, Int.reduceToNat, id_eq, Int.reduceBEq, Int.reduceLE, Int.reduceLT, Nat.reduceAdd, Nat.reduceEqDiff, Nat.reduceLT, Nat.reduceLeDiff, Nat.reduceMul, Nat.reduceSub, reduceIte])))
  · intro pre e r b hs' hb
    have hx := (at_row hs' hl).1; have hc := (at_row hs' hl).2.1; have hlt := (at_row hs' hl).2.2.1; have hw1 := (at_row hs' hl).2.2.2.1; have hl9 := (at_row hs' hl).2.2.2.2
    have c2 := c1 e
    have hst : goesOn l pre.length e = (decide (pre.length = 0) || factBefore (l.getD (pre.length - 1) default) e) := rfl
    by_cases h0 : pre.length = 0
    · have hd : decide (pre.length = 0) = true := by simp [h0]
      have hg0 : decide ((0 : Int) < (pre.length : Int)) = false := by simp [h0]
      clear hs'
      generalize hv : isFact e = v at c2
      cases v <;> simp -implicitDefEqProofs only [hd, Bool.true_or] at hst
      all_goals
        simp -implicitDefEqProofs only [W2, ↓D2, ↓DC, QX, enc_Fact, hx, hlt, hw1, c2, hg0, hv, hst, storeStep, plan_20_4, keep_20_2, leaf_some, isNormal, Int.reduceToNat, id_eq, Int.reduceBEq, Int.reduceLE, Int.reduceLT, Nat.reduceAdd, Nat.reduceEqDiff, Nat.reduceLT, Nat.reduceLeDiff, Nat.reduceMul, Nat.reduceSub, reduceIte]
        repeat' (split <;> (rename_i h; (try simp -implicitDefEqProofs only [Bool.not_eq_true', Bool.not_eq_false', decide_eq_true_eq, decide_eq_false_iff_not] at h); (try simp -implicitDefEqProofs only [W2, ↓D2, ↓DC, QX, *, enc_Fact, hx, hlt, hw1, c2, hg0, hv, hst, storeStep, plan_20_4, keep_20_2, leaf_some, isNormal, Int.reduceToNat, id_eq, Int.reduceBEq, Int.reduceLE, Int.reduceLT, Nat.reduceAdd, Nat.reduceEqDiff, Nat.reduceLT, Nat.reduceLeDiff, Nat.reduceMul, Nat.reduceSub, reduceIte])))
    · obtain ⟨f1, f2, f3, f4⟩ := prevF_at hs' hl h0
      have hd : decide (pre.length = 0) = false := by simp [h0]
      have hg0 : decide ((0 : Int) < (pre.length : Int)) = true := by simp -implicitDefEqProofs only [decide_eq_true_eq]; exact f3
      have c4 := c3 (l.getD (pre.length - 1) default) e
      have hlt1 : ((pre.length - 1 : Nat) : Int) < (l.length : Int) := by omega
      clear hs'
      generalize hv : isFact e = v at c2
      generalize factBefore (l.getD (pre.length - 1) default) e = p1 at hst c4
      cases v <;> cases p1 <;> simp -implicitDefEqProofs only [hd, Bool.false_or, Bool.and_true, Bool.and_false, Bool.not_true, Bool.not_false] at hst
      all_goals
        simp -implicitDefEqProofs only [W2, ↓D2, ↓DC, QX, enc_Fact, hx, hlt, hlt1, hw1, c2, c4, hg0, f1, f2, f4, hv, hst, storeStep, plan_20_4, keep_20_2, leaf_some, isNormal, Int.reduceToNat, id_eq, Int.reduceBEq, Int.reduceLE, Int.reduceLT, Nat.reduceAdd, Nat.reduceEqDiff, Nat.reduceLT, Nat.reduceLeDiff, Nat.reduceMul, Nat.reduceSub, reduceIte]
        repeat' (split <;> (rename_i h; (try simp -implicitDefEqProofs only [Bool.not_eq_true', Bool.not_eq_false', decide_eq_true_eq, decide_eq_false_iff_not] at h); (try simp -implicitDefEqProofs only [W2, ↓D2, ↓DC, QX, *, enc_Fact, hx, hlt, hlt1, hw1, c2, c4, hg0, f1, f2, f4, hv, hst, storeStep, plan_20_4, keep_20_2, leaf_some, isNormal, Int.reduceToNat, id_eq, Int.reduceBEq, Int.reduceLE, Int.reduceLT, Nat.reduceAdd, Nat.reduceEqDiff, Nat.reduceLT, Nat.reduceLeDiff, Nat.reduceMul, Nat.reduceSub, reduceIte])))
  · simp -implicitDefEqProofs only [firstRegion]; rw [keep_20_2]; simp -implicitDefEqProofs only [W2, ↓D2, ↓DC, Int.reduceToNat, id_eq, Int.reduceBEq, Int.reduceLE, Int.reduceLT, Nat.reduceAdd, Nat.reduceEqDiff, Nat.reduceLT, Nat.reduceLeDiff, Nat.reduceMul, Nat.reduceSub, reduceIte]; first | done | rfl
  · rfl
def posStep (f : Fact) (i : Nat) (x : Fact) (_ : Unit) : Sum Nat Unit := if factBefore x f = true then .inr () else .inl i
def posF (f : Fact) (s : List Fact) : Nat := loopL (posStep f) (fun _ => s.length) 0 s ()
def scAt (s : List Fact) (f : Fact) (i : Nat) : Bool := match s[i]? with | some x => sameClaim x f | none => false
def ltAt (s : List Fact) (f : Fact) (i : Nat) : Bool := match s[i]? with | some x => laterF f x | none => false
def iputR (s : List Fact) (f : Fact) (i : Nat) : List Fact × Bool :=
  if scAt s f i = true then (if ltAt s f i = true then s.set i f else s, true) else if s.length = 30 then (s, false) else (s.take i ++ f :: s.drop i, true)
def iput (s : List Fact) (f : Fact) : List Fact × Bool := if (isStore s && isFact f) = true then iputR s f (posF f s) else (s, false)
theorem six_facts (l : List Fact) : (l.map (Fact.enc true)).all six = true := List.all_eq_true.2 fun y hy => by
  obtain ⟨x, _, rfl⟩ := List.mem_map.1 hy
  rfl
theorem r_insert (k : Nat) (hk : 1 ≤ k) (s : List Fact) (hs : s.length ≤ 1000000) (i : Nat) (hi : i ≤ s.length) (f : Fact) :
    run E noExt k 24 [.own 0 false 34 6 (s.map (Fact.enc true)), .int .i64 (i : Nat), .sl true [f.enc true]] [] = some (.own 0 false 34 6 ((s.take i ++ f :: s.drop i).map (Fact.enc true)), []) := by
  obtain ⟨k, rfl⟩ : ∃ j, k = j + 1 := ⟨k - 1, by omega⟩
  simp -implicitDefEqProofs only [run, ext_24, insExt]
  have h6 := six_facts s
  have h7 : six (f.enc true) = true := rfl
  rw [if_pos ⟨by omega, by simpa using hi, h7, h6, by simpa using hs⟩]
  simp [List.map_take, List.map_drop]
theorem evCall_give3 {Φ : Phi} {nid n : Nat} {v a b : AV} {dst : Option Nat} {st : St} : evCall Φ [.give, .ro, .ro] nid n [v, a, b] [] dst st = evGive Φ nid n [(.give, v), (.ro, a), (.ro, b)] dst st := rfl
set_option maxHeartbeats 8000000 in
theorem r_impl_PutFact (k : Nat) (hk : 281474976710656 + 20 ≤ k) (s : List Fact) (hs : s.length ≤ 1000) (f : Fact) :
    run E noExt k 7 [.sl true (s.map (Fact.enc true)), f.enc true] [] = some (.tup [.own 0 false 34 6 ((iput s f).1.map (Fact.enc true)), .bool (iput s f).2], []) := by
  have c1 := r_impl_IsStore (k - 1) (by omega) s (by omega)
  have c2 := r_impl_IsFact (fl := true) (k - 1) (by omega) f
  have c3 := r_impl_copyFacts (k - 1) (by omega) s (by omega)
  have c4 := fun a b => r_impl_FactBefore (k - 1) (by omega) a b
  have c5 := fun a b => r_impl_SameClaim (k - 1) (by omega) a b
  have c6 := fun a b => r_impl_isLater (k - 1) (by omega) a b
  have c7 := fun i hi => r_insert (k - 1) (by omega) s (by omega) i hi f
  have hl : s.length ≤ 140737488355328 := by omega
  obtain ⟨k, rfl⟩ : ∃ j, k = j + 1 := ⟨k - 1, by omega⟩
  rw [run_succ rfl rfl, body_eq (nt := 65) (fn := Go.Proofs.Try.f7) (by kernel_rfl) rfl rfl rfl rfl rfl rfl rfl rfl]
  simp -implicitDefEqProofs only [Nat.add_sub_cancel, enc_Fact] at c1 c2 c3 c4 c5 c6 c7
  unfold iput
  cases h1 : isStore s
  · simp -implicitDefEqProofs only [W3, ↓D3, ↓DA, ↓DP, ↓DC, h1, enc_Fact, Go.Proofs.Try.f7, c1, c3, scals_Fact, finish_many0, resultsOf, resultOf, SH, Int.reduceToNat, id_eq, Int.reduceBEq, Int.reduceLE, Int.reduceLT, Nat.reduceAdd, Nat.reduceEqDiff, Nat.reduceLT, Nat.reduceLeDiff, Nat.reduceMul, Nat.reduceSub, reduceIte]
  · cases h2 : isFact f
    · simp -implicitDefEqProofs only [W3, ↓D3, ↓DA, ↓DP, ↓DC, h1, h2, enc_Fact, Go.Proofs.Try.f7, c1, c2, c3, scals_Fact, finish_many0, resultsOf, resultOf, SH, Int.reduceToNat, id_eq, Int.reduceBEq, Int.reduceLE, Int.reduceLT, Nat.reduceAdd, Nat.reduceEqDiff, Nat.reduceLT, Nat.reduceLeDiff, Nat.reduceMul, Nat.reduceSub, reduceIte]
    · simp -implicitDefEqProofs only [W3, ↓D3, ↓DA, ↓DP, ↓DC, h1, h2, enc_Fact, Go.Proofs.Try.f7, c1, c2, c3, scals_Fact, SH, Int.reduceToNat, id_eq, Int.reduceBEq, Int.reduceLE, Int.reduceLT, Nat.reduceAdd, Nat.reduceEqDiff, Nat.reduceLT, Nat.reduceLeDiff, Nat.reduceMul, Nat.reduceSub, reduceIte]
      rw [ev_loop]
      refine Eq.trans (loop_list (Q := fun (g : Nat) z => g = posF f s → thenEnd E.P [] _ 0 (thenEv E _ _ _ _ _ (outOf 0 z)) = some (.tup [.own 0 false 34 6 ((iputR s f (posF f s)).1.map (Fact.enc true)), .bool (iputR s f (posF f s)).2], [])) s (posStep f) (fun _ => s.length)
        (fun i _ => { sl := [(0, .sl true (s.map (Fact.enc true))), (3, .ptr 0 0), (6, .own 0 false 34 6 (s.map (Fact.enc true))), (7, .int .i64 (i : Nat))], bx := [(0, [.int .i64 f.kind, .int .i64 f.subject, .int .i64 f.value, .int .i64 f.issuer, .int .i64 f.at_, .int .i64 f.until_])], nx := 2, nt := 65 }) (fun _ _ => True) () ?_ ?_ (by omega) trivial ?_ ?_) rfl
      · intro _ _
        have hlt : ¬ ((s.length : Nat) : Int) < ((s.length : Nat) : Int) := by omega
        have c8 := c7 s.length (Nat.le_refl _)
        have hsc : scAt s f s.length = false := by unfold scAt; rw [List.getElem?_eq_none (Nat.le_refl _)]
        by_cases h30 : s.length = 30
        · have h31 : (((s.length : Nat) : Int) == 30) = true := by simp; omega
          simp -implicitDefEqProofs only [W3, ↓D3, ↓DA, ↓DP, ↓DC, QX, hlt, h31, evCall_give3, c8, scals_Fact, finish_many0, resultsOf, resultOf, plan_7_4, plan_7_6, plan_7_7, look_nil, evCall_io1, evCall_io2, evCall_io3, evCall_io4, finJ_1, finJ_2, finJ_3, finJ_4, finJ_int, finJ_bool, finJ_str, finJ_nils, finJ_agg, finJ_own, finJ_sl, finJ_tup, look_cons, reduceCtorEq, evCall_mutOwn, evCall_mutAgg, evGive, giveRows, ioBoxes, mutArgs, roArgs, handArg, mutSlots, isPtrB, pairs, pairss, back_nil, back_cons, backO, backE, setBoxes, importB, mode_mut, mode_give, mode_io, mode_ro, List.zip_cons_cons, List.zip_nil_left, List.zip_nil_right, ite_self, ite_true, ite_false, finish_give, finish_mut1, finish_io0, finish_io2, finish_io3, finish_ioc, finI, finC, finW_ptr, SH, leaf_some, isNormal, Int.reduceToNat, id_eq, Int.reduceBEq, Int.reduceLE, Int.reduceLT, Nat.reduceAdd, Nat.reduceEqDiff, Nat.reduceLT, Nat.reduceLeDiff, Nat.reduceMul, Nat.reduceSub, reduceIte]
          intro hg
          rw [← hg]
          unfold iputR
          rw [hsc]
          simp [h30]
        · have h31 : (((s.length : Nat) : Int) == 30) = false := by simp; omega
          simp -implicitDefEqProofs only [W3, ↓D3, ↓DA, ↓DP, ↓DC, QX, hlt, h31, evCall_give3, c8, scals_Fact, finish_many0, resultsOf, resultOf, plan_7_4, plan_7_6, plan_7_7, look_nil, evCall_io1, evCall_io2, evCall_io3, evCall_io4, finJ_1, finJ_2, finJ_3, finJ_4, finJ_int, finJ_bool, finJ_str, finJ_nils, finJ_agg, finJ_own, finJ_sl, finJ_tup, look_cons, reduceCtorEq, evCall_mutOwn, evCall_mutAgg, evGive, giveRows, ioBoxes, mutArgs, roArgs, handArg, mutSlots, isPtrB, pairs, pairss, back_nil, back_cons, backO, backE, setBoxes, importB, mode_mut, mode_give, mode_io, mode_ro, List.zip_cons_cons, List.zip_nil_left, List.zip_nil_right, ite_self, ite_true, ite_false, finish_give, finish_mut1, finish_io0, finish_io2, finish_io3, finish_ioc, finI, finC, finW_ptr, SH, leaf_some, isNormal, Int.reduceToNat, id_eq, Int.reduceBEq, Int.reduceLE, Int.reduceLT, Nat.reduceAdd, Nat.reduceEqDiff, Nat.reduceLT, Nat.reduceLeDiff, Nat.reduceMul, Nat.reduceSub, reduceIte]
          intro hg
          rw [← hg]
          unfold iputR
          rw [hsc]
          simp [h30]
      · intro pre x r _ hs' _
        have hx := (at_row hs' hl).1; have hc := (at_row hs' hl).2.1; have hlt := (at_row hs' hl).2.2.1; have hw1 := (at_row hs' hl).2.2.2.1; have hl9 := (at_row hs' hl).2.2.2.2
        have hxs : s[pre.length]? = some x := by rw [hs']; simp
        have hpl : pre.length ≤ s.length := by have := congrArg List.length hs'; rw [List.length_append] at this; omega
        clear hs'
        have d4 := c4 x f
        have d5 := c5 x f
        have d6 := c6 f x
        have c8 := c7 pre.length hpl
        have hset : (s.map (Fact.enc true)).set pre.length (.agg [.int .i64 f.kind, .int .i64 f.subject, .int .i64 f.value, .int .i64 f.issuer, .int .i64 f.at_, .int .i64 f.until_]) = (s.set pre.length f).map (Fact.enc true) := by rw [List.map_set]; rfl
        have hsc : scAt s f pre.length = sameClaim x f := by unfold scAt; rw [hxs]
        have hla : ltAt s f pre.length = laterF f x := by unfold ltAt; rw [hxs]
        cases hB : factBefore x f
        · have hst : posStep f pre.length x () = .inl pre.length := by unfold posStep; rw [hB]; rfl
          rw [hB] at d4
          cases hS : sameClaim x f
          · rw [hS] at d5
            by_cases h30 : s.length = 30
            · have h31 : (((s.length : Nat) : Int) == 30) = true := by simp; omega
              simp -implicitDefEqProofs only [W3, ↓D3, ↓DA, ↓DP, ↓DC, QX, enc_Fact, hx, hlt, d4, d5, hst, h31, evCall_give3, c8, scals_Fact, finish_many0, resultsOf, resultOf, plan_7_4, plan_7_6, plan_7_7, look_nil, evCall_io1, evCall_io2, evCall_io3, evCall_io4, finJ_1, finJ_2, finJ_3, finJ_4, finJ_int, finJ_bool, finJ_str, finJ_nils, finJ_agg, finJ_own, finJ_sl, finJ_tup, look_cons, reduceCtorEq, evCall_mutOwn, evCall_mutAgg, evGive, giveRows, ioBoxes, mutArgs, roArgs, handArg, mutSlots, isPtrB, pairs, pairss, back_nil, back_cons, backO, backE, setBoxes, importB, mode_mut, mode_give, mode_io, mode_ro, List.zip_cons_cons, List.zip_nil_left, List.zip_nil_right, ite_self, ite_true, ite_false, finish_give, finish_mut1, finish_io0, finish_io2, finish_io3, finish_ioc, finI, finC, finW_ptr, SH, leaf_some, isNormal, Int.reduceToNat, id_eq, Int.reduceBEq, Int.reduceLE, Int.reduceLT, Nat.reduceAdd, Nat.reduceEqDiff, Nat.reduceLT, Nat.reduceLeDiff, Nat.reduceMul, Nat.reduceSub, reduceIte]
              intro hg
              rw [← hg]
              unfold iputR
              rw [hsc, hS]
              simp [h30]
            · have h31 : (((s.length : Nat) : Int) == 30) = false := by simp; omega
              simp -implicitDefEqProofs only [W3, ↓D3, ↓DA, ↓DP, ↓DC, QX, enc_Fact, hx, hlt, d4, d5, hst, h31, evCall_give3, c8, scals_Fact, finish_many0, resultsOf, resultOf, plan_7_4, plan_7_6, plan_7_7, look_nil, evCall_io1, evCall_io2, evCall_io3, evCall_io4, finJ_1, finJ_2, finJ_3, finJ_4, finJ_int, finJ_bool, finJ_str, finJ_nils, finJ_agg, finJ_own, finJ_sl, finJ_tup, look_cons, reduceCtorEq, evCall_mutOwn, evCall_mutAgg, evGive, giveRows, ioBoxes, mutArgs, roArgs, handArg, mutSlots, isPtrB, pairs, pairss, back_nil, back_cons, backO, backE, setBoxes, importB, mode_mut, mode_give, mode_io, mode_ro, List.zip_cons_cons, List.zip_nil_left, List.zip_nil_right, ite_self, ite_true, ite_false, finish_give, finish_mut1, finish_io0, finish_io2, finish_io3, finish_ioc, finI, finC, finW_ptr, SH, leaf_some, isNormal, Int.reduceToNat, id_eq, Int.reduceBEq, Int.reduceLE, Int.reduceLT, Nat.reduceAdd, Nat.reduceEqDiff, Nat.reduceLT, Nat.reduceLeDiff, Nat.reduceMul, Nat.reduceSub, reduceIte]
              intro hg
              rw [← hg]
              unfold iputR
              rw [hsc, hS]
              simp [h30]
          · rw [hS] at d5
            cases hL : laterF f x
            · rw [hL] at d6
              simp -implicitDefEqProofs only [W3, ↓D3, ↓DA, ↓DP, ↓DC, QX, enc_Fact, hx, hlt, d4, d5, d6, hst, scals_Fact, finish_many0, resultsOf, resultOf, plan_7_4, plan_7_6, plan_7_7, SH, leaf_some, isNormal, Int.reduceToNat, id_eq, Int.reduceBEq, Int.reduceLE, Int.reduceLT, Nat.reduceAdd, Nat.reduceEqDiff, Nat.reduceLT, Nat.reduceLeDiff, Nat.reduceMul, Nat.reduceSub, reduceIte]
              intro hg
              rw [← hg]
              unfold iputR
              rw [hsc, hS, hla, hL]
              rfl
            · rw [hL] at d6
              simp -implicitDefEqProofs only [W3, ↓D3, ↓DA, ↓DP, ↓DC, QX, enc_Fact, hx, hlt, d4, d5, d6, hst, hset, scals_Fact, finish_many0, resultsOf, resultOf, plan_7_4, plan_7_6, plan_7_7, SH, leaf_some, isNormal, Int.reduceToNat, id_eq, Int.reduceBEq, Int.reduceLE, Int.reduceLT, Nat.reduceAdd, Nat.reduceEqDiff, Nat.reduceLT, Nat.reduceLeDiff, Nat.reduceMul, Nat.reduceSub, reduceIte]
              intro hg
              rw [← hg]
              unfold iputR
              rw [hsc, hS, hla, hL]
              rfl
        · have hst : posStep f pre.length x () = .inr () := by unfold posStep; rw [hB]; rfl
          rw [hB] at d4
          simp -implicitDefEqProofs only [W3, ↓D3, ↓DA, ↓DP, ↓DC, QX, enc_Fact, hx, hlt, hw1, d4, hst, plan_7_4, plan_7_6, plan_7_7, SH, keep_7_4, leaf_some, isNormal, Int.reduceToNat, id_eq, Int.reduceBEq, Int.reduceLE, Int.reduceLT, Nat.reduceAdd, Nat.reduceEqDiff, Nat.reduceLT, Nat.reduceLeDiff, Nat.reduceMul, Nat.reduceSub, reduceIte]
      · simp -implicitDefEqProofs only [firstRegion]
        rw [keep_7_4]
        simp -implicitDefEqProofs only [W3, ↓D3, ↓DA, ↓DP, ↓DC, Int.reduceToNat, id_eq, Int.reduceBEq, Int.reduceLE, Int.reduceLT, SH, Nat.reduceAdd, Nat.reduceEqDiff, Nat.reduceLT, Nat.reduceLeDiff, Nat.reduceMul, Nat.reduceSub, reduceIte]
      · rfl
theorem index_nonneg {α : Type} (p : α → Bool) : ∀ (s : List α) (i : Nat), 0 ≤ indexBy p i s ↔ ∃ x ∈ s, p x = true
  | [], i => by simp [indexBy]
  | x :: r, i => by
    have ih := index_nonneg p r (i + 1)
    unfold indexBy
    cases h : p x
    · simp -implicitDefEqProofs only [Bool.false_eq_true, if_false]
      rw [ih]
      simp [h]
    · simp [h]
theorem best_ge (kind subject now age a : Int) : ∀ (s : List Fact) (i : Nat) (b : Int), a ≤ loopL (bestStep kind subject now age) id i s b ↔ a ≤ b ∨ ∃ f ∈ s, (f.kind == kind && (f.subject == subject && holdsAt f now age)) = true ∧ a ≤ f.value
  | [], i, b => by simp [loopL]
  | f :: r, i, b => by
    simp -implicitDefEqProofs only [loopL, bestStep]
    rw [best_ge kind subject now age a r (i + 1)]
    by_cases hc : (f.kind == kind && (f.subject == subject && holdsAt f now age)) = true
    · rw [if_pos hc]
      constructor
      · rintro (h | ⟨g, hg, h⟩)
        · split at h
          · exact .inr ⟨f, by simp, hc, h⟩
          · exact .inl h
        · exact .inr ⟨g, by simp [hg], h⟩
      · rintro (h | ⟨g, hg, h1, h2⟩)
        · refine .inl ?_
          split <;> omega
        · rcases List.mem_cons.1 hg with rfl | hg
          · refine .inl ?_
            split <;> omega
          · exact .inr ⟨g, hg, h1, h2⟩
    · rw [if_neg hc]
      constructor
      · rintro (h | ⟨g, hg, h⟩)
        · exact .inl h
        · exact .inr ⟨g, by simp [hg], h⟩
      · rintro (h | ⟨g, hg, h1, h2⟩)
        · exact .inl h
        · rcases List.mem_cons.1 hg with rfl | hg
          · exact absurd h1 hc
          · exact .inr ⟨g, hg, h1, h2⟩
theorem role_mono {l : List Includes} {s t : List Fact} (h : ∀ f ∈ s, f ∈ t) {person now age role : Int} (hr : role ∈ rolesL l s person now age) : role ∈ rolesL l t person now age := by
  unfold rolesL at hr ⊢
  obtain ⟨f, hf, hx⟩ := List.mem_flatMap.1 hr
  have := List.mem_filter.1 hf
  exact List.mem_flatMap.2 ⟨f, List.mem_filter.2 ⟨h f this.1, this.2⟩, hx⟩
theorem iput_more {s : List Fact} {f : Fact} (h1 : (iput s f).2 = true) (h2 : ∀ x ∈ s, sameClaim x f = false) : ∀ x ∈ s, x ∈ (iput s f).1 := by
  intro x hx
  unfold iput at h1 ⊢
  split
  · rename_i hc
    rw [if_pos hc] at h1
    unfold iputR at h1 ⊢
    have hsc : scAt s f (posF f s) = false := by
      unfold scAt
      split
      · rename_i y hy
        exact h2 y (List.mem_of_getElem? hy)
      · rfl
    rw [hsc] at h1 ⊢
    simp -implicitDefEqProofs only [Bool.false_eq_true, if_false] at h1 ⊢
    split
    · exact hx
    · rw [List.mem_append, List.mem_cons]
      rw [← List.take_append_drop (posF f s) s] at hx
      rcases List.mem_append.1 hx with hx | hx
      · exact .inl hx
      · exact .inr (.inr hx)
  · exact hx
theorem iput_len {s : List Fact} {f : Fact} : (iput s f).1.length ≤ s.length + 1 := by
  unfold iput iputR
  split
  · split
    · split <;> simp
    · split
      · simp
      · simp -implicitDefEqProofs only [List.length_append, List.length_cons, List.length_take, List.length_drop]; omega
  · simp
theorem leaf_mono {l : List Includes} {s t : List Fact} (h : ∀ f ∈ s, f ∈ t) {q : Request} {x : Cond} (hl : leafAt l s q x = true) : leafAt l t q x = true := by
  unfold leafAt at hl ⊢
  split at hl
  · rename_i h1; rw [if_pos h1]
  · rename_i h1
    rw [if_neg h1]
    split at hl
    · rename_i h2
      rw [if_pos h2]
      unfold hasRole at hl ⊢
      obtain ⟨c, hc, hc2⟩ := List.any_eq_true.1 hl
      refine List.any_eq_true.2 ⟨c, ?_, hc2⟩
      rw [← rolesOf_eq] at hc ⊢
      exact ((sortUniq_spec _).2 c).2 (role_mono h (((sortUniq_spec _).2 c).1 hc))
    · rename_i h2
      rw [if_neg h2]
      split at hl
      · rename_i h3
        rw [if_pos h3]
        unfold findFact at hl ⊢
        rw [decide_eq_true_eq, index_nonneg] at hl ⊢
        obtain ⟨f, hf, hp⟩ := hl
        exact ⟨f, h f hf, hp⟩
      · rename_i h3
        rw [if_neg h3]
        split at hl
        · rename_i h4
          rw [if_pos h4]
          unfold bestValue at hl ⊢
          rw [decide_eq_true_eq, best_ge] at hl ⊢
          exact hl.imp id fun ⟨f, hf, hp⟩ => ⟨f, h f hf, hp⟩
        · rename_i h4
          rw [if_neg h4]
          split at hl
          · rename_i h5
            rw [if_pos h5]
            unfold bestValue at hl ⊢
            rw [decide_eq_true_eq, best_ge] at hl ⊢
            exact hl.imp id fun ⟨f, hf, hp⟩ => ⟨f, h f hf, hp⟩
          · rename_i h5
            rw [if_neg h5]
            exact hl
end Go.Proofs.Ytggkeechdakccaa.Flat
