/-
An explanation suffices, and no part of it can be left out: the law.
-/
import Derived.Test.YtaojmienjikfbaaGreatDoorEqU
import Derived.Test.YtaojmienjikfbaaGreatDoorEqEY
import Derived.Test.YtaojmienjikfbaaGreatDoorEqRO
import Derived.Test.YtaojmienjikfbaaGreatDoorEqX
set_option linter.unusedVariables false
set_option linter.unusedSimpArgs false
set_option maxRecDepth 10000
namespace Go.Proofs.YtaojmienjikfbaaGreatDoor.Flat
theorem bytes_loop (s : ByteArray) : ∀ (n i : Nat) (r : List UInt8), s.size - i = n → ByteArray.toList.loop s i r = r.reverse ++ s.data.toList.drop i
  | 0, i, r, h => by
    have e : s.data.toList.length = s.size := Array.length_toList
    unfold ByteArray.toList.loop
    rw [if_neg (by omega), List.drop_eq_nil_of_le (by omega), List.append_nil]
  | n + 1, i, r, h => by
    have e : s.data.toList.length = s.size := Array.length_toList
    unfold ByteArray.toList.loop
    rw [if_pos (by omega), bytes_loop s n (i + 1) _ (by omega)]
    have hi : i < s.data.toList.length := by omega
    rw [List.drop_eq_getElem_cons hi, List.reverse_cons, List.append_assoc]
    congr 1
    show [s.get! i] ++ _ = _
    have : s.get! i = s.data.toList[i] := by
      have h2 : i < s.data.size := by simpa using hi
      show s.data[i]! = _
      rw [getElem!_pos s.data i h2]; simp
    rw [this]; rfl
theorem bytes_list (s : ByteArray) : s.toList = s.data.toList := by
  unfold ByteArray.toList
  rw [bytes_loop s s.size 0 [] (by omega)]; simp
def perB : ByteArray := ⟨#[112, 101, 114, 109, 105, 116]⟩
theorem starts_permit (x : ByteArray) : ((permitB ++ x).extract 0 6).toList = perB.toList := by
  rw [bytes_list, bytes_list, ByteArray.data_extract]
  have : (permitB ++ x).data.toList = [112, 101, 114, 109, 105, 116, 32] ++ x.data.toList := by rw [data_append]; rfl
  simp -implicitDefEqProofs only [Array.toList_extract]
  rw [this]
  simp [perB, List.extract]
theorem starts_deny (x : ByteArray) : (((denyB ++ x).extract 0 6).toList == perB.toList) = false := by
  rw [beq_eq_false_iff_ne, bytes_list, bytes_list, ByteArray.data_extract]
  have : (denyB ++ x).data.toList = [100, 101, 110, 121, 32] ++ x.data.toList := by rw [data_append]; rfl
  simp -implicitDefEqProofs only [Array.toList_extract]
  rw [this]
  simp [perB, List.extract]
theorem decided_find (rules : List Rule) (hr : ∀ r ∈ rules, r.effect = 0 ∨ r.effect = 1) (h : List Int) (hm : ∀ z ∈ h, ∃ j, z = ((j : Nat) : Int) ∧ j < rules.length) :
    decided rules h = match h.find? (effIs rules 0) with | some _ => 0 | none => if h.length = 0 then 0 else 1 := by
  have h1 := decS_eq rules hr h 0 0 0 0 hm rfl
  unfold decided
  rw [← h1, Nat.zero_add]
  have key : ∀ (x : Int) (h : List Int) (i : Nat), loopL (decStepS rules) (fun _ => x) i h () = match h.find? (effIs rules 0) with | some _ => 0 | none => x := by
    intro x h
    induction h with
    | nil => intro i; rfl
    | cons z h ih =>
      intro i
      simp -implicitDefEqProofs only [loopL, show decStepS rules i z () = (if effIs rules 0 z = true then Sum.inl 0 else Sum.inr ()) from rfl, List.find?_cons]
      cases effIs rules 0 z with
      | true => rfl
      | false => simp -implicitDefEqProofs only [Bool.false_eq_true, if_false]; exact ih (i + 1)
  exact key _ h 0
theorem reason_permit (l : List Includes) (s : List Fact) (p : Policy) (q : Request) :
    (decide (((reasonOf l s p q).size : Int) > 6) = true ∧ (((reasonOf l s p q).extract 0 6).toList == perB.toList) = (decideBy l s p q == 1)) ∨ (decide (((reasonOf l s p q).size : Int) > 6) = false ∧ (decideBy l s p q == 1) = false) := by
  unfold reasonOf decideBy
  cases hv : (isRequest q && isPolicy p)
  · rw [if_neg (by decide), if_neg (by decide)]
    exact .inr ⟨by decide, rfl⟩
  · rw [if_pos rfl, if_pos rfl]
    rw [Bool.and_eq_true] at hv
    obtain ⟨hr8, hr⟩ := pol_rules hv.2
    have hm : ∀ z ∈ holdL (ruleAt l s q) 0 p.rules, ∃ j, z = ((j : Nat) : Int) ∧ j < p.rules.length := fun z hz => by
      obtain ⟨j, h1, h2⟩ := holdL_mem _ _ _ _ hz
      exact ⟨j, by simpa using h1, h2⟩
    generalize holdL (ruleAt l s q) 0 p.rules = h at hm
    rw [decided_find p.rules hr h hm]
    unfold reasonL
    cases h0 : h.find? (effIs p.rules 0) with
    | some z =>
      simp only
      cases hd : decide (((denyB ++ digitsB z.toNat).size : Int) > 6) with
      | true => exact .inl ⟨rfl, starts_deny _⟩
      | false => exact .inr ⟨rfl, rfl⟩
    | none =>
      simp only
      cases h with
      | nil => exact .inr ⟨by decide, rfl⟩
      | cons z h =>
        left
        refine ⟨decide_eq_true ?_, ?_⟩
        · simp -implicitDefEqProofs only [ByteArray.size_append]
          have : permitB.size = 7 := rfl
          omega
        · simp -implicitDefEqProofs only [List.length_cons, Nat.add_eq_zero_iff, Nat.succ_ne_self, and_false, if_false]
          rw [starts_permit]
          simp
theorem r_spec_DrawExplainFacts {fl : Bool} (k : Nat) (hk : 290271069732864 + 41 ≤ k) (bs : List Int) (hb : bs.length ≤ 140737488355328) :
    run E noExt k 18 [.sl fl (bs.map byteA)] [] = some (.tup [.own 0 false 66 2 ((caseD bs 0 (hashOf bs)).1.map (Includes.enc true)), .own 1 false 70 6 ((caseD bs 0 (hashOf bs)).2.1.map (Fact.enc true)), .agg [.int .i64 (decP bs).1.version, .own 2 false 63 7 ((decP bs).1.rules.map (Rule.enc true))], (decQ bs).enc true], []) := by
  have c1 := r_spec_DrawDecideBy (fl := fl) (k - 1) (by omega) bs hb
  obtain ⟨k, rfl⟩ : ∃ j, k = j + 1 := ⟨k - 1, by omega⟩
  rw [run_succ rfl rfl, body_eq (nt := 12) (fn := Go.Proofs.Tryz.f18) (by kernel_rfl) rfl rfl rfl rfl rfl rfl rfl rfl]
  simp -implicitDefEqProofs only [Nat.add_sub_cancel, enc_Request] at c1
  simp -implicitDefEqProofs only [W3, ↓D3, ↓DA, ↓DP, ↓DC, enc_Request, opQ_assign, finish_four0, resultsOf, resultOf, Go.Proofs.Tryz.f18, c1, scals_Fact, tscals_Includes, SH, Int.reduceToNat, id_eq, Int.reduceBEq, Int.reduceLE, Int.reduceLT, Nat.reduceAdd, Nat.reduceEqDiff, Nat.reduceLT, Nat.reduceLeDiff, Nat.reduceMul, Nat.reduceSub, reduceIte]
theorem needed_all (l : List Includes) (s : List Fact) (p : Policy) (q : Request) {x : Int} (hx : x ∈ explain l s p q) : isNeeded l s p q (explain l s p q) x = true := by
  unfold isNeeded
  rw [explain_suff, explain_needs l s p q hx]
  simp -implicitDefEqProofs only [Bool.not_false, Bool.and_self, Bool.and_true]
  exact List.any_eq_true.2 ⟨x, hx, by simp⟩
theorem len_text {y : ByteArray} : evLen E.P 9 (.str y) = some (.int .i64 (y.size : Nat)) := by kernel_rfl
theorem cut_six {y : ByteArray} (h : (6 : Int) ≤ y.size) : evCutStr y none (some (.int .i64 6)) = some (.str (y.extract 0 6)) := by
  unfold evCutStr
  simp only
  rw [if_pos ⟨by decide, h⟩]
  rfl
def okStep (_ : Nat) (_ : Int) (_ : Unit) : Sum Unit Unit := .inr ()
set_option maxHeartbeats 4000000 in
theorem law_FnExplained (bs : List Int) (hfit : FitL (fun _ => True) bs) (k : Nat) (hk : 1152921504606846976 ≤ k) : run E noExt k 4 [.sl false (bs.map byteA)] [] = some (.bool true, []) := by
  by_cases hlen : bs.length ≤ 1048576
  · have c0 := r_laws_big (fl := false) (k - 1) (by omega) bs (by omega)
    rw [decide_eq_false (by omega : ¬ (1048576 : Int) < (bs.length : Nat))] at c0
    have c1 := r_spec_DrawExplainFacts (fl := false) (k - 1) (by omega) bs (by omega)
    have hll := caseD_len1 (bs := bs) (i := 0) (h := hashOf bs)
    have hsl := caseD_len (bs := bs) (i := 0) (h := hashOf bs)
    have hpw : (decP bs).1.w ≤ 1000 := by
      unfold Policy.w decP polPick
      split
      · exact Nat.le_trans anyPolicy_w (by decide)
      · exact Nat.le_trans policyD_w (by decide)
    generalize (caseD bs 0 (hashOf bs)).1 = l at *
    generalize (caseD bs 0 (hashOf bs)).2.1 = s at *
    generalize (decP bs).1 = p at *
    generalize decQ bs = q at *
    have hp1 : p.rules.length ≤ 1000 := Nat.le_trans (wl_length _ _) hpw
    have c2 := r_impl_ExplainFacts (k - 1) (by omega) l (by omega) s (by omega) p (by omega) q
    have hkl : (explain l s p q).length ≤ s.length := by
      have := (expl_sub (sufF l s p q) (idxL s.length)).length_le
      unfold explain
      have h9 : (idxL s.length).length = s.length := by simp [idxL]
      omega
    have c3 := r_impl_Suffices (fl := true) (f2 := true) (f3 := true) (f4 := true) (f5 := true) (k - 1) (by omega) l (by omega) s (by omega) p (by omega) q (explain l s p q) (by omega)
    rw [explain_suff] at c3
    have c4 : ∀ x ∈ explain l s p q, _ := fun x hx => r_impl_IsNeeded (fl := true) (f2 := true) (f3 := true) (f4 := true) (f5 := true) (k - 1) (by omega) l (by omega) s (by omega) p (by omega) q (explain l s p q) (by omega) x
    have hin := fun x (hx : x ∈ explain l s p q) => explain_in l s p q hx
    have hasc := explain_asc l s p q
    have hnd := fun x (hx : x ∈ explain l s p q) => needed_all l s p q hx
    have c5 := r_impl_ReasonOf (fl := true) (f2 := true) (f3 := true) (f4 := true) (k - 1) (by omega) l (by omega) s (by omega) p (by omega) q
    have c6 := r_impl_DecideBy (fl := true) (f2 := true) (f3 := true) (f4 := true) (k - 1) (by omega) l (by omega) s (by omega) p (by omega) q
    have hwhy := reason_permit l s p q
    generalize explain l s p q = h at *
    generalize reasonOf l s p q = y at *
    generalize decideBy l s p q = z at *
    have hs9 : h.length ≤ 140737488355328 := by omega
    have hsl9 : s.length ≤ 140737488355328 := by omega
    obtain ⟨k, rfl⟩ : ∃ j, k = j + 1 := ⟨k - 1, by omega⟩
    rw [run_succ rfl rfl, body_eq (nt := 100) (fn := Go.Proofs.Tryz.f4) (by kernel_rfl) rfl rfl rfl rfl rfl rfl rfl rfl]
    simp -implicitDefEqProofs only [Nat.add_sub_cancel, enc_Policy, enc_Request] at c0 c1 c2 c3 c4 c5 c6
    simp -implicitDefEqProofs only [W3, ↓D3, ↓DA, ↓DP, ↓DC, Go.Proofs.Tryz.f4, c0, c1, c2, c3, scals_Fact, shuts_Fact, tscals_Includes, shuts_Includes, shuts_Rule, scals_ints, plains_ints, SH, Int.reduceToNat, id_eq, Int.reduceBEq, Int.reduceLE, Int.reduceLT, Nat.reduceAdd, Nat.reduceEqDiff, Nat.reduceLT, Nat.reduceLeDiff, Nat.reduceMul, Nat.reduceSub, reduceIte]
    clear c0 c1 c2 c3
    rw [ev_loop]
    refine Eq.trans (loop_list (Q := fun (R : Unit) x => thenEnd E.P [] _ 0 (thenEv E _ _ _ _ _ (outOf 0 x)) = some (.bool true, [])) h okStep id
      (fun i b => { sl := [(3, .own 0 false 66 2 (l.map (Includes.enc true))), (4, .own 1 false 70 6 (s.map (Fact.enc true))), (5, .ptr 0 0), (6, .ptr 1 0), (7, .own 2 false 3 1 (h.map (AV.int .i64))), (8, .int .i64 (i : Nat))], bx := [(0, [.int .i64 p.version, .own 3 false 63 7 (p.rules.map (Rule.enc true))]), (1, [.int .i64 q.person, .int .i64 q.device, .int .i64 q.program, .int .i64 q.action, .int .i64 q.object, .int .i64 q.now])], nx := 6, nt := 100 }) (fun _ _ => True) () ?_ ?_ (by omega) trivial ?_) ?_
    · intro b _
      have hlt : ¬ ((h.length : Nat) : Int) < ((h.length : Nat) : Int) := by omega
      rcases hwhy with ⟨hw1, hw2⟩ | ⟨hw1, hw2⟩
      · have hcut := cut_six (y := y) (by have := of_decide_eq_true hw1; omega)
        unfold perB at hw2
        simp -implicitDefEqProofs only [W3, ↓D3, ↓DA, ↓DP, ↓DC, QX, hlt, hw1, hw2, hcut, c5, c6, len_text, bin_seql, bin_beqlE, shuts_Rule, shuts_Fact, shuts_Includes, scals_ints, plains_ints, plan_4_10, plan_4_13, SH, leaf_some, isNormal, Int.reduceToNat, id_eq, Int.reduceBEq, Int.reduceLE, Int.reduceLT, Nat.reduceAdd, Nat.reduceEqDiff, Nat.reduceLT, Nat.reduceLeDiff, Nat.reduceMul, Nat.reduceSub, reduceIte]
      ·
        simp -implicitDefEqProofs only [W3, ↓D3, ↓DA, ↓DP, ↓DC, QX, hlt, hw1, hw2, c5, c6, len_text, bin_beqlE, shuts_Rule, shuts_Fact, shuts_Includes, scals_ints, plains_ints, plan_4_10, plan_4_13, SH, leaf_some, isNormal, Int.reduceToNat, id_eq, Int.reduceBEq, Int.reduceLE, Int.reduceLT, Nat.reduceAdd, Nat.reduceEqDiff, Nat.reduceLT, Nat.reduceLeDiff, Nat.reduceMul, Nat.reduceSub, reduceIte]
    · intro pre c r b hs' _
      have hasc' := hasc
      rw [hs'] at hasc'
      have hx := (at_row hs' hs9).1; have hc := (at_row hs' hs9).2.1; have hlt := (at_row hs' hs9).2.2.1; have hw1 := (at_row hs' hs9).2.2.2.1; have hl9 := (at_row hs' hs9).2.2.2.2
      have d4 := c4 c hc
      rw [hnd c hc] at d4
      have e0 := hin c hc
      have e1 : decide (c < 0) = false := decide_eq_false (by omega)
      have e2 : decide (c ≥ ((s.length : Nat) : Int)) = false := decide_eq_false (by omega)
      clear c4 hnd hin c5 c6 hwhy
      have hcases : pre = [] ∨ ∃ pre' d, pre = pre' ++ [d] := by
        rcases List.eq_nil_or_concat pre with h | ⟨a, d, h⟩
        · exact .inl h
        · exact .inr ⟨a, d, by rw [h, List.concat_eq_append]⟩
      rcases hcases with rfl | ⟨pre', d, rfl⟩
      · clear hs'
        have e3 : decide ((0 : Int) > 0) = false := rfl
        have hl0 : ((0 : Int) < ((h.length : Nat) : Int)) = True := eq_true (by simpa using hlt)
        have hl1 : decide ((0 : Int) < ((h.length : Nat) : Int)) = true := decide_eq_true (by simpa using hlt)
        have hx0 : h[0]? = some c := hx
        have hw0 : IntKind.i64.wrap (0 + 1) = (([] : List Int).length + 1 : Nat) := rfl
        simp -implicitDefEqProofs only [W3, ↓D3, ↓DA, ↓DP, ↓DC, QX, e0, e1, e2, e3, hl0, hl1, hx0, hw0, d4, hx, hlt, hw1, okStep, shuts_Rule, shuts_Fact, shuts_Includes, scals_ints, plains_ints, plan_4_10, plan_4_13, SH, keep_4_8, leaf_some, isNormal, Int.reduceToNat, id_eq, Int.reduceBEq, Int.reduceLE, Int.reduceLT, Nat.reduceAdd, Nat.reduceEqDiff, Nat.reduceLT, Nat.reduceLeDiff, Nat.reduceMul, Nat.reduceSub, reduceIte]
      · have hdc : d < c := by
          rw [List.append_assoc] at hasc'
          have h1 := (List.pairwise_append.1 hasc').2.1
          exact (List.pairwise_cons.1 h1).1 c (by simp)
        have hx1 : h[pre'.length]? = some d := by rw [hs']; simp
        have hpl : (pre' ++ [d]).length = pre'.length + 1 := by simp
        rw [hpl] at hx hlt hw1
        clear hs' hasc'
        have e3 : decide (((pre'.length + 1 : Nat) : Int) > 0) = true := decide_eq_true (by omega)
        have e4 : decide (d ≥ c) = false := decide_eq_false (by omega)
        have hw2 : IntKind.i64.wrap (((pre'.length + 1 : Nat) : Int) - 1) = ((pre'.length : Nat) : Int) := by rw [IntWalk.i64_in _ (by omega)]; omega
        have hlt2 : (((pre'.length : Nat) : Int) < ((h.length : Nat) : Int)) = True := eq_true (by have := of_eq_true (eq_true hlt); omega)
        simp -implicitDefEqProofs only [W3, ↓D3, ↓DA, ↓DP, ↓DC, QX, hpl, e0, e1, e2, e3, e4, hw2, hlt2, hx1, d4, hx, hlt, hw1, okStep, shuts_Rule, shuts_Fact, shuts_Includes, scals_ints, plains_ints, plan_4_10, plan_4_13, SH, keep_4_8, leaf_some, isNormal, Int.reduceToNat, id_eq, Int.reduceBEq, Int.reduceLE, Int.reduceLT, Nat.reduceAdd, Nat.reduceEqDiff, Nat.reduceLT, Nat.reduceLeDiff, Nat.reduceMul, Nat.reduceSub, reduceIte]
    · simp -implicitDefEqProofs only [firstRegion]
      rw [keep_4_8]
      simp -implicitDefEqProofs only [W3, ↓D3, ↓DA, ↓DP, ↓DC, Int.reduceToNat, id_eq, Int.reduceBEq, Int.reduceLE, Int.reduceLT, SH, Nat.reduceAdd, Nat.reduceEqDiff, Nat.reduceLT, Nat.reduceLeDiff, Nat.reduceMul, Nat.reduceSub, reduceIte]
      try trace_state
    · rfl
  · have hl : bs.length ≤ 140737488355328 := hfit.1
    have c0 := r_laws_big (fl := false) (k - 1) (by omega) bs hl
    rw [decide_eq_true (by omega : (1048576 : Int) < (bs.length : Nat))] at c0
    obtain ⟨k, rfl⟩ : ∃ j, k = j + 1 := ⟨k - 1, by omega⟩
    rw [run_succ rfl rfl, body_eq (nt := 100) (fn := Go.Proofs.Tryz.f4) (by kernel_rfl) rfl rfl rfl rfl rfl rfl rfl rfl]
    simp -implicitDefEqProofs only [Nat.add_sub_cancel] at c0
    simp -implicitDefEqProofs only [W3, ↓D3, ↓DA, ↓DP, ↓DC, Go.Proofs.Tryz.f4, c0, SH, Int.reduceToNat, id_eq, Int.reduceBEq, Int.reduceLE, Int.reduceLT, Nat.reduceAdd, Nat.reduceEqDiff, Nat.reduceLT, Nat.reduceLeDiff, Nat.reduceMul, Nat.reduceSub, reduceIte]
end Go.Proofs.YtaojmienjikfbaaGreatDoor.Flat
