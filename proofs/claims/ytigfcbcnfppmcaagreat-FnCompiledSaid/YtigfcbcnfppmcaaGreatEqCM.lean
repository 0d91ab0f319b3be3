/-
Which rules hold, and what a policy decides.
-/
import Derived.Test.YtigfcbcnfppmcaaGreatEqV
import Derived.Test.YtigfcbcnfppmcaaGreatEqFB
import Derived.Test.YtigfcbcnfppmcaaGreatEqTO
import Derived.Test.YtigfcbcnfppmcaaGreatEqK
set_option linter.unusedVariables false
set_option linter.unusedSimpArgs false
set_option maxRecDepth 10000
namespace Go.Proofs.YtigfcbcnfppmcaaGreat.Flat
def isRequest (q : Request) : Bool := hasKind q.person 1 && (hasKind q.device 2 && (hasKind q.program 3 && (hasKind q.object 4 && (inR q.action 0 5 && isT q.now))))
theorem r_impl_IsRequest {fl : Bool} (k : Nat) (hk : 281474976710656 + 5 ≤ k) (q : Request) : run E noExt k 15 [q.enc fl] [] = some (.bool (isRequest q), []) := by
  obtain ⟨k, rfl⟩ : ∃ j, k = j + 1 := ⟨k - 1, by omega⟩
  rw [run_succ rfl rfl, body_eq (nt := 31) (fn := Go.Proofs.Tryz.f15) (by kernel_rfl) rfl rfl rfl rfl rfl rfl rfl rfl]
  have c_impl_InRange := r_impl_InRange k (by omega)
  have c_impl_HasKind := r_impl_HasKind k (by omega)
  have c_impl_IsTime := r_impl_IsTime k (by omega)
  simp -implicitDefEqProofs only [QS, QN, ZRS, ↓ZDS, Go.Proofs.Tryz.f15, c_impl_InRange, c_impl_HasKind, c_impl_IsTime, enc_Request, ifEv_bool, gate_bool, gateP_bool, gateQ_bool, pick_bool, SN, evCutRow, Int.reduceToNat, id_eq, Int.reduceBEq, Int.reduceLE, Int.reduceLT, SS, one_ne2, num_ne2, TIS, MDS, AV.cells, AV.isCell, Value.cells, Nat.reduceAdd, Nat.reduceEqDiff, Nat.reduceLT, Nat.reduceLeDiff, Nat.reduceMul, Nat.reduceSub, reduceIte]
  repeat' (split <;> (rename_i h; (try simp -implicitDefEqProofs only [Bool.not_eq_true', Bool.not_eq_false', decide_eq_true_eq, decide_eq_false_iff_not] at h); (try simp -implicitDefEqProofs only [QS, QN, ZRS, ↓ZDS, *, c_impl_InRange, c_impl_HasKind, c_impl_IsTime, enc_Request, ifEv_bool, gate_bool, gateP_bool, gateQ_bool, pick_bool, SN, evCutRow, Int.reduceToNat, id_eq, Int.reduceBEq, Int.reduceLE, Int.reduceLT, SS, one_ne2, num_ne2, TIS, MDS, AV.cells, AV.isCell, Value.cells, Nat.reduceAdd, Nat.reduceEqDiff, Nat.reduceLT, Nat.reduceLeDiff, Nat.reduceMul, Nat.reduceSub, reduceIte])))
  all_goals simp -implicitDefEqProofs only [isRequest, *, Bool.true_and, Bool.false_and, Bool.and_true, Bool.and_false]
noncomputable def ruleAt (l : List Includes) (s : List Fact) (q : Request) (r : Rule) : Bool := isFor r q.action q.object && evalAt l s q r.cond
theorem r_impl_RulesThatHold {fl f2 f3 f4 : Bool} (k : Nat) (hk : 884940186000000 + 8 ≤ k) (l : List Includes) (hl : l.length ≤ 140737488355328) (s : List Fact) (hs : s.length ≤ 1099511627776) (p : Policy) (hp : p.w ≤ 1099511627776) (q : Request) :
    run E noExt k 52 [.sl fl (l.map (Includes.enc fl)), .sl f2 (s.map (Fact.enc f2)), p.enc f3, q.enc f4] [] = some (.own 0 false 3 1 ((holdL (ruleAt l s q) 0 p.rules).map (AV.int .i64)), []) := by
  unfold Policy.w at hp
  have hs1 := Nat.le_trans (wl_length _ p.rules) hp
  have c1 : ∀ r ∈ p.rules, run E noExt (k - 1) 22 [r.enc f3, .int .i64 q.action, .int .i64 q.object] [] = some (.bool (isFor r q.action q.object), []) := fun r _ => r_impl_IsFor _ (by omega) r _ _
  have c2 : ∀ r ∈ p.rules, run E noExt (k - 1) 8 [.sl fl (l.map (Includes.enc fl)), .sl f2 (s.map (Fact.enc f2)), r.cond.enc f3, q.enc f4] [] = some (.bool (evalAt l s q r.cond), []) :=
    fun r hr => r_impl_EvalCond _ (by omega) l hl s hs r.cond (by have h1 := wl_mem (w := Rule.w) hr; have h2 : r.cond.w = r.w := rfl; omega) q
  clear hs
  have hs : p.rules.length ≤ 140737488355328 := by omega
  obtain ⟨k, rfl⟩ : ∃ j, k = j + 1 := ⟨k - 1, by omega⟩
  rw [run_succ rfl rfl, body_eq (nt := 41) (fn := Go.Proofs.Tryz.f52) (by kernel_rfl) rfl rfl rfl rfl rfl rfl rfl rfl]
  simp -implicitDefEqProofs only [Nat.add_sub_cancel] at c1 c2
  simp -implicitDefEqProofs only [QS, QN, QG, QO, ZRS, ↓ZDS, ZRG, ↓ZDG, ZRO, ↓ZDO, Go.Proofs.Tryz.f52, enc_Policy, enc_Request, SO, SH, evAppend, rowOf, noref, isRef, isPtr, noPtr, isBad, AV.isUndef, SN, evCutRow, Int.reduceToNat, id_eq, Int.reduceBEq, Int.reduceLE, Int.reduceLT, SS, one_ne2, num_ne2, TIS, MDS, AV.cells, AV.isCell, Value.cells, Nat.reduceAdd, Nat.reduceEqDiff, Nat.reduceLT, Nat.reduceLeDiff, Nat.reduceMul, Nat.reduceSub, reduceIte]
  rw [ev_loop]
  refine Eq.trans (loop_list (Q := fun g x => thenEnd E.P [] _ 0 (thenEv E _ _ _ _ _ (outOf 0 x)) = some (.own 0 false 3 1 (g.map (AV.int .i64)), [])) p.rules (holdStep (ruleAt l s q)) id
    (fun i b => { sl := [(0, .sl fl (l.map (Includes.enc fl))), (1, .sl f2 (s.map (Fact.enc f2))), (7, .ptr 0 0), (9, .own 0 false 3 1 (b.map (AV.int .i64))), (14, .sl f3 (p.rules.map (Rule.enc f3))), (15, .int .i64 (p.rules.length : Nat)), (16, .int .i64 (i : Nat))],
                  bx := [(0, [.int .i64 q.person, .int .i64 q.device, .int .i64 q.program, .int .i64 q.action, .int .i64 q.object, .int .i64 q.now])], nx := 2, nt := 41 }) (fun i b => b.length ≤ i) [] ?_ ?_ (by omega) (by simp) ?_) ?_
  · intro b _
    simp -implicitDefEqProofs only [QS, QN, QG, QO, ZRS, ↓ZDS, ZRG, ↓ZDG, ZRO, ↓ZDO, SO, SH, evAppend, rowOf, noref, isRef, isPtr, noPtr, isBad, AV.isUndef, leaf_some, isNormal, ifEv_bool, gate_bool, gateP_bool, gateQ_bool, pick_bool, SN, evCutRow, Int.reduceToNat, id_eq, Int.reduceBEq, Int.reduceLE, Int.reduceLT, SS, one_ne2, num_ne2, TIS, MDS, AV.cells, AV.isCell, Value.cells, Nat.reduceAdd, Nat.reduceEqDiff, Nat.reduceLT, Nat.reduceLeDiff, Nat.reduceMul, Nat.reduceSub, reduceIte]
    repeat' (split <;> (rename_i h; (try simp -implicitDefEqProofs only [Bool.not_eq_true', Bool.not_eq_false', decide_eq_true_eq, decide_eq_false_iff_not] at h); (try simp -implicitDefEqProofs only [QS, QN, QG, QO, ZRS, ↓ZDS, ZRG, ↓ZDG, ZRO, ↓ZDO, *, SO, SH, evAppend, rowOf, noref, isRef, isPtr, noPtr, isBad, AV.isUndef, leaf_some, isNormal, ifEv_bool, gate_bool, gateP_bool, gateQ_bool, pick_bool, SN, evCutRow, Int.reduceToNat, id_eq, Int.reduceBEq, Int.reduceLE, Int.reduceLT, SS, one_ne2, num_ne2, TIS, MDS, AV.cells, AV.isCell, Value.cells, Nat.reduceAdd, Nat.reduceEqDiff, Nat.reduceLT, Nat.reduceLeDiff, Nat.reduceMul, Nat.reduceSub, reduceIte])))
  · intro pre c r b hs' hb
    have hx := (at_row hs' hs).1; have hc := (at_row hs' hs).2.1; have hlt := (at_row hs' hs).2.2.1; have hw1 := (at_row hs' hs).2.2.2.1; have hl9 := (at_row hs' hs).2.2.2.2
    clear hs'
    have c3 := c1 c hc
    have c4 := c2 c hc
    simp -implicitDefEqProofs only [enc_Rule, enc_Cond, enc_Request] at c3 c4
    have hq : ruleAt l s q c = (isFor c q.action q.object && evalAt l s q c.cond) := rfl
    generalize evalAt l s q c.cond = b2 at c4 hq
    generalize isFor c q.action q.object = b1 at c3 hq
    have hm1 : (b.length + 1) * 8 ≤ 140737488355328 := by omega
    have hm2 : b.length + 1 ≤ 9223372036854775807 := by omega
    have hpl : plains [AV.int IntKind.i64 (pre.length : Int)] = true := rfl
    have hm3 : b.length ≤ pre.length + 1 := by omega
    have hm4 : (b ++ [((pre.length : Nat) : Int)]).length ≤ pre.length + 1 := by rw [List.length_append]; exact Nat.succ_le_succ hb
    clear c1 c2
    cases b1 <;> cases b2 <;> simp -implicitDefEqProofs only [Bool.and_self, Bool.and_false, Bool.and_true] at hq
    all_goals
      simp -implicitDefEqProofs only [QS, QN, QG, QO, ZRS, ↓ZDS, ZRG, ↓ZDG, ZRO, ↓ZDO, enc_Rule, hx, hlt, hw1, c3, c4, hq, hm1, hm2, hm3, hm4, hpl, holdStep, List.map_append, SO, SH, evAppend, rowOf, noref, isRef, isPtr, noPtr, isBad, AV.isUndef, keep_52_3, leaf_some, isNormal, ifEv_bool, gate_bool, gateP_bool, gateQ_bool, pick_bool, SN, evCutRow, Int.reduceToNat, id_eq, Int.reduceBEq, Int.reduceLE, Int.reduceLT, SS, one_ne2, num_ne2, TIS, MDS, AV.cells, AV.isCell, Value.cells, Nat.reduceAdd, Nat.reduceEqDiff, Nat.reduceLT, Nat.reduceLeDiff, Nat.reduceMul, Nat.reduceSub, reduceIte]
      repeat' (split <;> (rename_i h; (try simp -implicitDefEqProofs only [Bool.not_eq_true', Bool.not_eq_false', decide_eq_true_eq, decide_eq_false_iff_not] at h); (try simp -implicitDefEqProofs only [QS, QN, QG, QO, ZRS, ↓ZDS, ZRG, ↓ZDG, ZRO, ↓ZDO, *, enc_Rule, hx, hlt, hw1, c3, c4, hq, hm1, hm2, hm3, hm4, hpl, holdStep, List.map_append, SO, SH, evAppend, rowOf, noref, isRef, isPtr, noPtr, isBad, AV.isUndef, keep_52_3, leaf_some, isNormal, ifEv_bool, gate_bool, gateP_bool, gateQ_bool, pick_bool, SN, evCutRow, Int.reduceToNat, id_eq, Int.reduceBEq, Int.reduceLE, Int.reduceLT, SS, one_ne2, num_ne2, TIS, MDS, AV.cells, AV.isCell, Value.cells, Nat.reduceAdd, Nat.reduceEqDiff, Nat.reduceLT, Nat.reduceLeDiff, Nat.reduceMul, Nat.reduceSub, reduceIte])))
  · simp -implicitDefEqProofs only [firstRegion]; rw [keep_52_3]; simp -implicitDefEqProofs only [QS, QN, QG, ZRS, ↓ZDS, ZRG, ↓ZDG, SN, evCutRow, Int.reduceToNat, id_eq, Int.reduceBEq, Int.reduceLE, Int.reduceLT, SS, one_ne2, num_ne2, TIS, MDS, AV.cells, AV.isCell, Value.cells, Nat.reduceAdd, Nat.reduceEqDiff, Nat.reduceLT, Nat.reduceLeDiff, Nat.reduceMul, Nat.reduceSub, reduceIte]; first | done | rfl
  · rw [holdLoop]; rfl
noncomputable def decideBy (l : List Includes) (s : List Fact) (p : Policy) (q : Request) : Int := if (isRequest q && isPolicy p) = true then decided p.rules (holdL (ruleAt l s q) 0 p.rules) else 0
theorem r_impl_DecideBy {fl f2 f3 f4 : Bool} (k : Nat) (hk : 884940186000000 + 9 ≤ k) (l : List Includes) (hl : l.length ≤ 140737488355328) (s : List Fact) (hs : s.length ≤ 1099511627776) (p : Policy) (hp : p.w ≤ 1099511627776) (q : Request) :
    run E noExt k 18 [.sl fl (l.map (Includes.enc fl)), .sl f2 (s.map (Fact.enc f2)), p.enc f3, q.enc f4] [] = some (.int .i64 (decideBy l s p q), []) := by
  have hp0 := hp
  unfold Policy.w at hp0
  have hs1 := Nat.le_trans (wl_length _ p.rules) hp0
  have hh := holdL_length (ruleAt l s q) p.rules 0
  have c1 := r_impl_IsRequest (fl := f4) (k - 1) (by omega) q
  have c2 := r_impl_IsPolicy (fl := f3) (k - 1) (by omega) p hp
  have c3 := r_impl_RulesThatHold (fl := fl) (f2 := f2) (f3 := f3) (f4 := f4) (k - 1) (by omega) l hl s hs p hp q
  have c4 := r_impl_decided (fl := f3) (f2 := true) (k - 1) (by omega) p (holdL (ruleAt l s q) 0 p.rules) (by omega) (by omega) (fun z hz => by
    obtain ⟨j, h1, h2⟩ := holdL_mem _ _ _ _ hz
    exact ⟨j, by simpa using h1, h2⟩)
  unfold decideBy
  obtain ⟨k, rfl⟩ : ∃ j, k = j + 1 := ⟨k - 1, by omega⟩
  rw [run_succ rfl rfl, body_eq (nt := 24) (fn := Go.Proofs.Tryz.f18) (by kernel_rfl) rfl rfl rfl rfl rfl rfl rfl rfl]
  simp -implicitDefEqProofs only [Nat.add_sub_cancel, enc_Policy, enc_Request] at c1 c2 c3 c4
  generalize isRequest q = b1 at c1 ⊢
  generalize isPolicy p = b2 at c2 ⊢
  cases b1 with
  | false => simp -implicitDefEqProofs only [QS, QN, QG, QO, ZRS, ↓ZDS, ZRG, ↓ZDG, ZRO, ↓ZDO, Go.Proofs.Tryz.f18, enc_Policy, enc_Request, c1, c2, ifEv_bool, gate_bool, gateP_bool, gateQ_bool, pick_bool, SO, SH, evAppend, rowOf, noref, isRef, isPtr, noPtr, isBad, AV.isUndef, SN, evCutRow, Int.reduceToNat, id_eq, Int.reduceBEq, Int.reduceLE, Int.reduceLT, SS, one_ne2, num_ne2, TIS, MDS, AV.cells, AV.isCell, Value.cells, Nat.reduceAdd, Nat.reduceEqDiff, Nat.reduceLT, Nat.reduceLeDiff, Nat.reduceMul, Nat.reduceSub, reduceIte]
  | true =>
    cases b2 with
    | false => simp -implicitDefEqProofs only [QS, QN, QG, QO, ZRS, ↓ZDS, ZRG, ↓ZDG, ZRO, ↓ZDO, Go.Proofs.Tryz.f18, enc_Policy, enc_Request, c1, c2, ifEv_bool, gate_bool, gateP_bool, gateQ_bool, pick_bool, SO, SH, evAppend, rowOf, noref, isRef, isPtr, noPtr, isBad, AV.isUndef, SN, evCutRow, Int.reduceToNat, id_eq, Int.reduceBEq, Int.reduceLE, Int.reduceLT, SS, one_ne2, num_ne2, TIS, MDS, AV.cells, AV.isCell, Value.cells, Nat.reduceAdd, Nat.reduceEqDiff, Nat.reduceLT, Nat.reduceLeDiff, Nat.reduceMul, Nat.reduceSub, reduceIte]
    | true => simp -implicitDefEqProofs only [QS, QN, QG, QO, ZRS, ↓ZDS, ZRG, ↓ZDG, ZRO, ↓ZDO, Go.Proofs.Tryz.f18, enc_Policy, enc_Request, c1, c2, c3, c4, scals_ints, plains_ints, ifEv_bool, gate_bool, gateP_bool, gateQ_bool, pick_bool, plan_18_3, SO, SH, evAppend, rowOf, noref, isRef, isPtr, noPtr, isBad, AV.isUndef, SN, evCutRow, Int.reduceToNat, id_eq, Int.reduceBEq, Int.reduceLE, Int.reduceLT, SS, one_ne2, num_ne2, TIS, MDS, AV.cells, AV.isCell, Value.cells, Nat.reduceAdd, Nat.reduceEqDiff, Nat.reduceLT, Nat.reduceLeDiff, Nat.reduceMul, Nat.reduceSub, reduceIte]
end Go.Proofs.YtigfcbcnfppmcaaGreat.Flat
set_option linter.unusedVariables false
set_option linter.unusedSimpArgs false
set_option maxRecDepth 10000
namespace Go.Proofs.YtigfcbcnfppmcaaGreat.Flat
def mapStep {α β : Type} (f : α → β) (_ : Nat) (c : α) (b : List β) : Sum (List β) (List β) := .inr (b ++ [f c])
theorem mapLoop {α β : Type} (f : α → β) : ∀ (s : List α) (i : Nat) (b : List β), loopL (mapStep f) id i s b = b ++ s.map f
  | [], i, b => by simp [loopL]
  | c :: r, i, b => by simp -implicitDefEqProofs only [loopL, mapStep]; rw [mapLoop f r]; simp
noncomputable def decideCompiled (l : List Includes) (s : List Fact) (x : Compiled) (q : Request) : Int := if (isRequest q && answerOf x.diagram (x.atoms.map (leafAt l s q))) = true then 1 else 0
theorem scals_bools (m : List Bool) : AV.scals (m.map AV.bool) = true := by
  induction m with
  | nil => rfl
  | cons b m ih => simpa [AV.scals, AV.scal] using ih
theorem plains_bools (m : List Bool) : plains (m.map AV.bool) = true := plains_map (fun _ => rfl) m
theorem r_impl_DecideCompiled {fl f2 f3 f4 : Bool} (k : Nat) (hk : 294669116243968 + 16 ≤ k) (l : List Includes) (hl : l.length ≤ 140737488355328) (s : List Fact) (hs : s.length ≤ 1099511627776) (x : Compiled) (hw : x.w ≤ 1099511627776) (q : Request) :
    run E noExt k 25 [.sl fl (l.map (Includes.enc fl)), .sl f2 (s.map (Fact.enc f2)), x.enc f3, q.enc f4] [] = some (.int .i64 (decideCompiled l s x q), []) := by
  unfold Compiled.w at hw
  have hs1 := wl_length Cond.w x.atoms
  have hsa : x.atoms.length ≤ 140737488355328 := by omega
  have c1 := r_impl_IsRequest (fl := f4) (k - 1) (by omega) q
  have c2 : ∀ c ∈ x.atoms, run E noExt (k - 1) 35 [.sl fl (l.map (Includes.enc fl)), .sl f2 (s.map (Fact.enc f2)), c.enc f3, q.enc f4] [] = some (.bool (leafAt l s q c), []) := fun c _ => r_impl_LeafHolds _ (by omega) l hl s hs c q
  have c3 := r_impl_AnswerOf (fl := f3) (f2 := true) (k - 1) (by omega) x.diagram (by omega)
  unfold decideCompiled
  obtain ⟨k, rfl⟩ : ∃ j, k = j + 1 := ⟨k - 1, by omega⟩
  rw [run_succ rfl rfl, body_eq (nt := 39) (fn := Go.Proofs.Tryz.f25) (by kernel_rfl) rfl rfl rfl rfl rfl rfl rfl rfl]
  simp -implicitDefEqProofs only [Nat.add_sub_cancel, enc_Request, enc_Diagram] at c1 c2 c3
  simp -implicitDefEqProofs only [QS, QN, QO, ZRS, ↓ZDS, ZRO, ↓ZDO, Go.Proofs.Tryz.f25, enc_Compiled, enc_Request, ifEv_bool, SO, SH, evAppend, rowOf, noref, isRef, isPtr, noPtr, isBad, AV.isUndef, dedup, nodupB, idx, AV.rows, AV.rowss, AV.mapO, AV.mapOs, SN, evCutRow, Int.reduceToNat, id_eq, Int.reduceBEq, Int.reduceLE, Int.reduceLT, SS, one_ne2, num_ne2, TIS, MDS, AV.cells, AV.isCell, Value.cells, Nat.reduceAdd, Nat.reduceEqDiff, Nat.reduceLT, Nat.reduceLeDiff, Nat.reduceMul, Nat.reduceSub, reduceIte]
  rw [ev_loop]
  refine Eq.trans (loop_list (Q := fun g z => thenEnd E.P [] _ 0 (thenEv E _ _ _ _ _ (outOf 0 z)) = some (.int .i64 (if (isRequest q && answerOf x.diagram g) = true then 1 else 0), [])) x.atoms (mapStep (leafAt l s q)) id
    (fun i b => { sl := [(0, .sl fl (l.map (Includes.enc fl))), (1, .sl f2 (s.map (Fact.enc f2))), (6, .ptr 0 0), (7, .ptr 1 0), (9, .own 0 false 4 1 (b.map AV.bool)), (14, .sl f3 (x.atoms.map (Cond.enc f3))), (15, .int .i64 (x.atoms.length : Nat)), (16, .int .i64 (i : Nat))],
                  bx := [(0, [.sl f3 (x.atoms.map (Cond.enc f3)), .int .i64 x.diagram.atoms, .sl f3 (x.diagram.nodes.map (Choice.enc f3)), .int .i64 x.diagram.root, .int .i64 x.version]), (1, [.int .i64 q.person, .int .i64 q.device, .int .i64 q.program, .int .i64 q.action, .int .i64 q.object, .int .i64 q.now])], nx := 3, nt := 39 })
    (fun i b => b.length ≤ i) [] ?_ ?_ (by omega) (by simp) ?_) ?_
  · intro b hb
    have c4 := c3 b (by omega)
    cases hq : isRequest q <;> rw [hq] at c1
    ·
      simp -implicitDefEqProofs only [QS, QN, QG, QO, ZRS, ↓ZDS, ZRG, ↓ZDG, ZRO, ↓ZDO, c1, hq, scals_bools, plains_bools, rowss_bools, boxess_bools, mapOs_bools, SO, SH, evAppend, rowOf, noref, isRef, isPtr, noPtr, isBad, AV.isUndef, leaf_some, isNormal, ifEv_bool, gate_bool, gateP_bool, gateQ_bool, pick_bool, SN, evCutRow, Int.reduceToNat, id_eq, Int.reduceBEq, Int.reduceLE, Int.reduceLT, SS, one_ne2, num_ne2, TIS, MDS, AV.cells, AV.isCell, Value.cells, Nat.reduceAdd, Nat.reduceEqDiff, Nat.reduceLT, Nat.reduceLeDiff, Nat.reduceMul, Nat.reduceSub, reduceIte]
      repeat' (split <;> (rename_i h; (try simp -implicitDefEqProofs only [Bool.not_eq_true', Bool.not_eq_false', decide_eq_true_eq, decide_eq_false_iff_not] at h); (try simp -implicitDefEqProofs only [QS, QN, QG, QO, ZRS, ↓ZDS, ZRG, ↓ZDG, ZRO, ↓ZDO, *, c1, hq, scals_bools, plains_bools, rowss_bools, boxess_bools, mapOs_bools, SO, SH, evAppend, rowOf, noref, isRef, isPtr, noPtr, isBad, AV.isUndef, leaf_some, isNormal, ifEv_bool, gate_bool, gateP_bool, gateQ_bool, pick_bool, SN, evCutRow, Int.reduceToNat, id_eq, Int.reduceBEq, Int.reduceLE, Int.reduceLT, SS, one_ne2, num_ne2, TIS, MDS, AV.cells, AV.isCell, Value.cells, Nat.reduceAdd, Nat.reduceEqDiff, Nat.reduceLT, Nat.reduceLeDiff, Nat.reduceMul, Nat.reduceSub, reduceIte])))
    · cases hv : answerOf x.diagram b <;> rw [hv] at c4
      all_goals
        simp -implicitDefEqProofs only [QS, QN, QG, QO, ZRS, ↓ZDS, ZRG, ↓ZDG, ZRO, ↓ZDO, c1, c4, hq, hv, id_eq, scals_bools, plains_bools, rowss_bools, boxess_bools, mapOs_bools, SO, SH, evAppend, rowOf, noref, isRef, isPtr, noPtr, isBad, AV.isUndef, leaf_some, isNormal, ifEv_bool, gate_bool, gateP_bool, gateQ_bool, pick_bool, SN, evCutRow, Int.reduceToNat, Int.reduceBEq, Int.reduceLE, Int.reduceLT, SS, one_ne2, num_ne2, TIS, MDS, AV.cells, AV.isCell, Value.cells, Nat.reduceAdd, Nat.reduceEqDiff, Nat.reduceLT, Nat.reduceLeDiff, Nat.reduceMul, Nat.reduceSub, reduceIte]
        repeat' (split <;> (rename_i h; (try simp -implicitDefEqProofs only [Bool.not_eq_true', Bool.not_eq_false', decide_eq_true_eq, decide_eq_false_iff_not] at h); (try simp -implicitDefEqProofs only [QS, QN, QG, QO, ZRS, ↓ZDS, ZRG, ↓ZDG, ZRO, ↓ZDO, *, c1, c4, hq, hv, id_eq, scals_bools, plains_bools, rowss_bools, boxess_bools, mapOs_bools, SO, SH, evAppend, rowOf, noref, isRef, isPtr, noPtr, isBad, AV.isUndef, leaf_some, isNormal, ifEv_bool, gate_bool, gateP_bool, gateQ_bool, pick_bool, SN, evCutRow, Int.reduceToNat, Int.reduceBEq, Int.reduceLE, Int.reduceLT, SS, one_ne2, num_ne2, TIS, MDS, AV.cells, AV.isCell, Value.cells, Nat.reduceAdd, Nat.reduceEqDiff, Nat.reduceLT, Nat.reduceLeDiff, Nat.reduceMul, Nat.reduceSub, reduceIte])))
  · intro pre c r b hs' hb
    have hx := (at_row hs' hsa).1; have hc := (at_row hs' hsa).2.1; have hlt := (at_row hs' hsa).2.2.1; have hw1 := (at_row hs' hsa).2.2.2.1; have hl9 := (at_row hs' hsa).2.2.2.2
    clear hs'
    have c5 := c2 c hc
    simp -implicitDefEqProofs only [enc_Cond] at c5
    have hm1 : b.length + 1 ≤ 140737488355328 := by omega
    have hm2 : b.length + 1 ≤ 9223372036854775807 := by omega
    have hm3 : (b ++ [leafAt l s q c]).length ≤ pre.length + 1 := by rw [List.length_append]; exact Nat.succ_le_succ hb
    have hpl : plains [AV.bool (leafAt l s q c)] = true := rfl
    simp -implicitDefEqProofs only [QS, QN, QG, QO, ZRS, ↓ZDS, ZRG, ↓ZDG, ZRO, ↓ZDO, enc_Cond, hx, hlt, hw1, c5, hm1, hm2, hm3, hpl, mapStep, Nat.mul_one, List.map_append, scals_bools, plains_bools, rowss_bools, boxess_bools, mapOs_bools, SO, SH, evAppend, rowOf, noref, isRef, isPtr, noPtr, isBad, AV.isUndef, keep_25_3, leaf_some, isNormal, ifEv_bool, gate_bool, gateP_bool, gateQ_bool, pick_bool, SN, evCutRow, Int.reduceToNat, id_eq, Int.reduceBEq, Int.reduceLE, Int.reduceLT, SS, one_ne2, num_ne2, TIS, MDS, AV.cells, AV.isCell, Value.cells, Nat.reduceAdd, Nat.reduceEqDiff, Nat.reduceLT, Nat.reduceLeDiff, Nat.reduceMul, Nat.reduceSub, reduceIte]
    repeat' (split <;> (rename_i h; (try simp -implicitDefEqProofs only [Bool.not_eq_true', Bool.not_eq_false', decide_eq_true_eq, decide_eq_false_iff_not] at h); (try simp -implicitDefEqProofs only [QS, QN, QG, QO, ZRS, ↓ZDS, ZRG, ↓ZDG, ZRO, ↓ZDO, *, enc_Cond, hx, hlt, hw1, c5, hm1, hm2, hm3, hpl, mapStep, Nat.mul_one, List.map_append, scals_bools, plains_bools, rowss_bools, boxess_bools, mapOs_bools, SO, SH, evAppend, rowOf, noref, isRef, isPtr, noPtr, isBad, AV.isUndef, keep_25_3, leaf_some, isNormal, ifEv_bool, gate_bool, gateP_bool, gateQ_bool, pick_bool, SN, evCutRow, Int.reduceToNat, id_eq, Int.reduceBEq, Int.reduceLE, Int.reduceLT, SS, one_ne2, num_ne2, TIS, MDS, AV.cells, AV.isCell, Value.cells, Nat.reduceAdd, Nat.reduceEqDiff, Nat.reduceLT, Nat.reduceLeDiff, Nat.reduceMul, Nat.reduceSub, reduceIte])))
  · simp -implicitDefEqProofs only [firstRegion]
    rw [keep_25_3]
    simp -implicitDefEqProofs only [QS, QN, QG, QO, ZRS, ↓ZDS, ZRG, ↓ZDG, ZRO, ↓ZDO, SN, evCutRow, Int.reduceToNat, id_eq, Int.reduceBEq, Int.reduceLE, Int.reduceLT, SO, SH, evAppend, rowOf, noref, isRef, isPtr, noPtr, isBad, AV.isUndef, SS, one_ne2, num_ne2, TIS, MDS, AV.cells, AV.isCell, Value.cells, Nat.reduceAdd, Nat.reduceEqDiff, Nat.reduceLT, Nat.reduceLeDiff, Nat.reduceMul, Nat.reduceSub, reduceIte]
  · rw [mapLoop]; rfl
end Go.Proofs.YtigfcbcnfppmcaaGreat.Flat
set_option linter.unusedVariables false
set_option linter.unusedSimpArgs false
namespace Go.Proofs.YtigfcbcnfppmcaaGreat.Flat
theorem good_nil {A : Int} : GoodN A [] := fun i x h => by simp at h
theorem table_answers {n : Nat} (hn : n ≤ 6) {table : List Bool} (ht : table.length = 2 ^ n) :
    isDiagram (fromTable (n : Nat) table) = true ∧ ∀ v : List Bool, v.length = n → answerOf (fromTable (n : Nat) table) v = table.getD (numV v) false := by
  have hf : fromTable ((n : Nat) : Int) table = fromT (n : Nat) table := by
    unfold fromTable
    rw [if_pos]
    unfold fromOk inR
    simp -implicitDefEqProofs only [Int.toNat_natCast, ht, decide_true, Bool.and_true, Bool.and_eq_true, decide_eq_true_eq]
    omega
  have B := bld_built n hn table n 0 0 [] (by omega) good_nil
  rw [hf]
  have hD : isDiagram (fromT ((n : Nat) : Int) table) = true := by
    rw [isDiagram_iff]
    unfold fromT
    simp -implicitDefEqProofs only [Int.toNat_natCast]
    refine ⟨?_, B.good⟩
    have h1 := B.place.1
    have h2 := B.place.2.1
    simp -implicitDefEqProofs only [inR, Bool.and_eq_true, decide_eq_true_eq]
    omega
  refine ⟨hD, fun v hv => ?_⟩
  unfold answerOf
  rw [hD, Bool.true_and, ansF_D]
  have hval := B.val v
  rw [idxF_num v n 0 0 v hv (by simp)] at hval
  simp -implicitDefEqProofs only [Nat.zero_add, Nat.pow_zero, Nat.one_mul] at hval
  unfold fromT
  simp -implicitDefEqProofs only [Int.toNat_natCast]
  unfold evN at hval
  rw [hval]
  cases table.getD (numV v) false <;> rfl
theorem comp_answers {p : Policy} {a o : Int} (hok : compOk p a o = true) :
    isDiagram (compD p a o) = true ∧ ∀ v : List Bool, v.length = (atomsOf p a o).length → answerOf (compD p a o) v = polB p a o (atomsOf p a o) v := by
  unfold compOk at hok
  rw [Bool.and_eq_true, decide_eq_true_eq] at hok
  have ht := compTab_len p a o (atomsOf p a o) (2 ^ (atomsOf p a o).length)
  obtain ⟨h1, h2⟩ := table_answers hok.2 ht
  refine ⟨h1, fun v hv => ?_⟩
  unfold compD
  rw [h2 v hv]
  have hlt : numV v < 2 ^ (atomsOf p a o).length := by rw [← hv]; exact numV_lt v
  unfold compTab
  rw [List.getD_eq_getElem?_getD, List.getElem?_map, List.getElem?_range hlt]
  simp -implicitDefEqProofs only [Option.map_some, Option.getD_some]
  rw [← hv, vals_self]
theorem valid_leaf {c : Cond} (h : c.valid = true) (h7 : c.op ≠ 7) (h8 : c.op ≠ 8) (h9 : c.op ≠ 9) : c.op = 1 ∨ isLf c = true := by
  rw [c.valid_eq] at h
  simp -implicitDefEqProofs only [nodeOk, Bool.and_eq_true, beq_iff_eq, List.all_eq_true] at h
  have h1 := h.1.1.1
  have ar : arity c.op = if (c.op == 7) = true then 1 else if (c.op == 8) = true then 2 else if (c.op == 9) = true then 2 else if inR c.op 1 6 = true then 0 else -1 := rfl
  have e7 : (c.op == 7) = false := by simpa using h7
  have e8 : (c.op == 8) = false := by simpa using h8
  have e9 : (c.op == 9) = false := by simpa using h9
  rw [ar, e7, e8, e9] at h1
  simp -implicitDefEqProofs only [Bool.false_eq_true, if_false] at h1
  by_cases h0 : inR c.op 1 6 = true
  · rw [if_pos h0] at h1
    by_cases h2 : c.op = 1
    · exact .inl h2
    · right
      unfold isLf
      simp -implicitDefEqProofs only [inR, Bool.and_eq_true, decide_eq_true_eq, beq_iff_eq] at h0 ⊢
      omega
  · rw [if_neg h0] at h1
    omega
theorem lvs_mem {s : List Cond} {d y : Cond} (hd : d ∈ s) (hy : y ∈ lv d) : y ∈ lvs s := by
  induction s with
  | nil => simp at hd
  | cons c r ih =>
    simp -implicitDefEqProofs only [lvs, List.mem_append]
    rcases List.mem_cons.1 hd with rfl | hd
    · exact .inl hy
    · exact .inr (ih hd)
theorem eval_leaves (p p' : Cond → Bool) (h1 : ∀ y : Cond, y.op = 1 → p y = p' y) : ∀ c : Cond, c.valid = true → (∀ y ∈ lv c, p y = p' y) → c.eval p = c.eval p' := by
  intro c
  induction c using Cond.induct with
  | h c ih =>
    intro hv hl
    have sub : ∀ d ∈ c.args, ∀ y ∈ lv d, p y = p' y := fun d hd y hy => hl y (by rw [lv_eq]; exact List.mem_append_right _ (lvs_mem hd hy))
    obtain ⟨v7, v8, v9⟩ := valid_args hv
    rw [Cond.eval_eq, Cond.eval_eq p']
    by_cases e7 : c.op = 7
    · obtain ⟨a, ha, hva⟩ := v7 e7
      have := ih a (by rw [ha]; simp) hva (sub a (by rw [ha]; simp))
      simp [e7, ha, this]
    · by_cases e8 : c.op = 8
      · obtain ⟨a, b, hab, hva, hvb⟩ := v8 e8
        have i1 := ih a (by rw [hab]; simp) hva (sub a (by rw [hab]; simp))
        have i2 := ih b (by rw [hab]; simp) hvb (sub b (by rw [hab]; simp))
        simp [e8, hab, i1, i2]
      · by_cases e9 : c.op = 9
        · obtain ⟨a, b, hab, hva, hvb⟩ := v9 e9
          have i1 := ih a (by rw [hab]; simp) hva (sub a (by rw [hab]; simp))
          have i2 := ih b (by rw [hab]; simp) hvb (sub b (by rw [hab]; simp))
          simp [e9, hab, i1, i2]
        · have b7 : (c.op == 7) = false := by simpa using e7
          have b8 : (c.op == 8) = false := by simpa using e8
          have b9 : (c.op == 9) = false := by simpa using e9
          simp -implicitDefEqProofs only [b7, b8, b9, Bool.false_eq_true, if_false]
          rcases valid_leaf hv e7 e8 e9 with h | h
          · exact h1 c h
          · exact hl c (by rw [lv_eq, if_pos h]; simp)
theorem leafVal_map {atoms : List Cond} {f : Cond → Bool} {c : Cond} (h : c ∈ atoms) : leafVal atoms (atoms.map f) c = f c := by
  have h0 : 0 ≤ leafIdx atoms c := (indexBy_iff _ _ _).2 (List.any_eq_true.2 ⟨c, h, by simp⟩)
  obtain ⟨i, x, h1, h2, h3⟩ := indexBy_at atoms 0 h0
  have hx : x = c := of_decide_eq_true h3
  subst hx
  have hi := (List.getElem?_eq_some_iff.1 h2).1
  have h1' : leafIdx atoms x = (i : Int) := by unfold leafIdx; rw [h1, Nat.zero_add]
  unfold leafVal
  rw [h1']
  simp -implicitDefEqProofs only [List.length_map, Int.toNat_natCast]
  rw [List.getD_eq_getElem?_getD, List.getElem?_map, h2]
  simp -implicitDefEqProofs only [Option.map_some, Option.getD_some]
  have e1 : decide ((0 : Int) ≤ (i : Int)) = true := by simp
  have e2 : decide ((i : Int) < ((atoms.length : Nat) : Int)) = true := by simp -implicitDefEqProofs only [decide_eq_true_eq]; omega
  rw [e1, e2]
  simp
theorem lvsFor_mem {a o : Int} : ∀ {s : List Rule} {r : Rule} {y : Cond}, r ∈ s → isFor r a o = true → y ∈ lv r.cond → y ∈ lvsFor a o s
  | [], r, y, h, _, _ => by simp at h
  | c :: s, r, y, h, hf, hy => by
    simp -implicitDefEqProofs only [lvsFor, List.mem_append]
    rcases List.mem_cons.1 h with rfl | h
    · left; rw [if_pos hf]; exact hy
    · right; exact lvsFor_mem h hf hy
theorem rule_same {l : List Includes} {s : List Fact} {p : Policy} {q : Request} {r : Rule} (hr : r ∈ p.rules) :
    ruleBy q.action q.object (atomsOf p q.action q.object) ((atomsOf p q.action q.object).map (leafAt l s q)) r = ruleAt l s q r := by
  unfold ruleBy ruleAt evalAt
  cases hf : isFor r q.action q.object
  · simp
  · cases hc : isCond r.cond
    · simp
    · simp -implicitDefEqProofs only [Bool.true_and]
      have hv : r.cond.valid = true := by unfold isCond at hc; rw [Bool.and_eq_true] at hc; exact hc.2
      refine eval_leaves _ _ (fun y hy => ?_) r.cond hv (fun y hy => ?_)
      · simp [leafAt, hy]
      · have hm : y ∈ atomsOf p q.action q.object := by
          unfold atomsOf
          rw [atomsL_foldl]
          exact mem_foldl _ _ _ (lvsFor_mem hr hf hy)
        have hlf := lv_lf r.cond y hy
        have h1 : (y.op == 1) = false := by
          unfold isLf at hlf
          simp -implicitDefEqProofs only [inR, Bool.and_eq_true, decide_eq_true_eq] at hlf
          have := hlf.1
          simp; omega
        simp -implicitDefEqProofs only [h1, Bool.false_or]
        exact leafVal_map hm
theorem polBy_congr {f g : Rule → Bool} : ∀ (s : List Rule) (i : Nat) (y : Bool), (∀ r ∈ s, f r = g r) → loopL (polStep f) id i s y = loopL (polStep g) id i s y
  | [], _, _, _ => rfl
  | r :: s, i, y, h => by
    have h1 := h r (by simp)
    have ih := fun y => polBy_congr s (i + 1) y (fun r hr => h r (by simp [hr]))
    simp -implicitDefEqProofs only [loopL, polStep, h1]
    cases g r
    · simp -implicitDefEqProofs only [Bool.false_eq_true, if_false]; exact ih y
    · simp -implicitDefEqProofs only [if_true]
      cases r.effect == 0
      · simp -implicitDefEqProofs only [Bool.false_eq_true, if_false]; exact ih _
      · simp -implicitDefEqProofs only [if_true]
theorem decided_01 (rules : List Rule) : ∀ (hold : List Int) (i : Nat) (out : Int), (out = 0 ∨ out = 1) → (loopL (decStep rules) id i hold out = 0 ∨ loopL (decStep rules) id i hold out = 1)
  | [], _, _, h => h
  | z :: r, i, out, h => by
    simp -implicitDefEqProofs only [loopL, decStep]
    split
    · rename_i g hg
      split at hg
      · simp at hg; exact .inl hg.symm
      · split at hg <;> simp at hg
    · rename_i b hb
      split at hb
      · simp at hb
      · split at hb
        · simp at hb; subst hb; exact decided_01 rules r (i + 1) 1 (.inr rfl)
        · simp at hb; subst hb; exact decided_01 rules r (i + 1) out h
theorem compiled_decides {l : List Includes} {s : List Fact} {p : Policy} {q : Request} (hok : compOk p q.action q.object = true) :
    decideCompiled l s (compFor p q.action q.object) q = decideBy l s p q := by
  have hP : isPolicy p = true := by unfold compOk at hok; rw [Bool.and_eq_true] at hok; exact hok.1
  have hc : compFor p q.action q.object = ⟨atomsOf p q.action q.object, compD p q.action q.object, p.version⟩ := if_pos hok
  unfold decideCompiled decideBy
  rw [hc, hP, Bool.and_true]
  simp only
  rw [(comp_answers hok).2 _ (by simp)]
  cases hq : isRequest q
  · simp
  · simp -implicitDefEqProofs only [Bool.true_and, if_true]
    have h1 : polB p q.action q.object (atomsOf p q.action q.object) ((atomsOf p q.action q.object).map (leafAt l s q)) = polBy (ruleAt l s q) p.rules := polBy_congr _ _ _ fun r hr => rule_same hr
    rw [h1, ← decided_pol]
    rcases decided_01 p.rules (holdL (ruleAt l s q) 0 p.rules) 0 0 (.inl rfl) with h | h
    · have : decided p.rules (holdL (ruleAt l s q) 0 p.rules) = 0 := h
      rw [this]; rfl
    · have : decided p.rules (holdL (ruleAt l s q) 0 p.rules) = 1 := h
      rw [this]; rfl
end Go.Proofs.YtigfcbcnfppmcaaGreat.Flat
