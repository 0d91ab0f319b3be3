/-
A policy by the values of its atoms.
-/
import Derived.Test.YtkadcnfpjppdbaaEqH
import Derived.Test.YtkadcnfpjppdbaaFlatM4
import Derived.Test.YtkadcnfpjppdbaaEqG
import Derived.Test.YtkadcnfpjppdbaaEqYM
import Derived.Test.YtkadcnfpjppdbaaEqCC
set_option linter.unusedVariables false
set_option linter.unusedSimpArgs false
set_option maxRecDepth 10000
namespace Go.Proofs.Ytkadcnfpjppdbaa.Flat
def polStep (f : Rule → Bool) (_ : Nat) (r : Rule) (yes : Bool) : Sum Bool Bool := if f r = true then (if (r.effect == 0) = true then .inl false else .inr (yes || (r.effect == 1))) else .inr yes
def polBy (f : Rule → Bool) (s : List Rule) : Bool := loopL (polStep f) id 0 s false
def holdStep (f : Rule → Bool) (i : Nat) (r : Rule) (b : List Int) : Sum (List Int) (List Int) := .inr (if f r = true then b ++ [(i : Int)] else b)
def holdL (f : Rule → Bool) : Nat → List Rule → List Int
  | _, [] => []
  | i, r :: s => if f r = true then (i : Int) :: holdL f (i + 1) s else holdL f (i + 1) s
theorem holdLoop (f : Rule → Bool) : ∀ (s : List Rule) (i : Nat) (b : List Int), loopL (holdStep f) id i s b = b ++ holdL f i s
  | [], i, b => by simp [loopL, holdL]
  | r :: s, i, b => by
    simp -implicitDefEqProofs only [loopL, holdStep, holdL]
    rw [holdLoop f s]
    cases f r <;> simp
theorem holdL_length (f : Rule → Bool) : ∀ (s : List Rule) (i : Nat), (holdL f i s).length ≤ s.length
  | [], i => by simp [holdL]
  | r :: s, i => by
    have := holdL_length f s (i + 1)
    simp -implicitDefEqProofs only [holdL]
    split <;> simp <;> omega
theorem holdL_mem (f : Rule → Bool) : ∀ (s : List Rule) (i : Nat) (z : Int), z ∈ holdL f i s → ∃ j, z = ((i + j : Nat) : Int) ∧ j < s.length
  | [], i, z, h => by simp [holdL] at h
  | r :: s, i, z, h => by
    simp -implicitDefEqProofs only [holdL] at h
    have go : z ∈ holdL f (i + 1) s → ∃ j, z = ((i + j : Nat) : Int) ∧ j < (r :: s).length := fun h => by
      obtain ⟨j, h1, h2⟩ := holdL_mem f s (i + 1) z h
      exact ⟨j + 1, by omega, by simp; omega⟩
    split at h
    · rcases List.mem_cons.1 h with rfl | h
      · exact ⟨0, by simp, by simp⟩
      · exact go h
    · exact go h
def decStep (rules : List Rule) (_ : Nat) (z : Int) (out : Int) : Sum Int Int :=
  if ((rules.getD z.toNat default).effect == 0) = true then .inl 0 else if ((rules.getD z.toNat default).effect == 1) = true then .inr 1 else .inr out
def decided (rules : List Rule) (hold : List Int) : Int := loopL (decStep rules) id 0 hold 0
theorem decLoop (f : Rule → Bool) (rules : List Rule) : ∀ (s pre : List Rule) (i : Nat) (out : Int) (yes : Bool) (q : Nat), rules = pre ++ s → (out == 1) = yes →
    (loopL (decStep rules) id i (holdL f pre.length s) out == 1) = loopL (polStep f) id q s yes
  | [], pre, i, out, yes, q, hr, hy => by simpa [loopL, holdL] using hy
  | r :: s, pre, i, out, yes, q, hr, hy => by
    have hg : rules.getD ((pre.length : Nat) : Int).toNat default = r := by rw [hr]; simp
    have ih := fun i out yes q h => decLoop f rules s (pre ++ [r]) i out yes q (by rw [hr]; simp) h
    simp -implicitDefEqProofs only [List.length_append, List.length_cons, List.length_nil] at ih
    simp -implicitDefEqProofs only [holdL, loopL, polStep]
    cases hf : f r
    · simp -implicitDefEqProofs only [Bool.false_eq_true, if_false]
      exact ih _ _ _ _ hy
    · simp -implicitDefEqProofs only [if_true, loopL, decStep, hg]
      cases h0 : r.effect == 0
      · simp -implicitDefEqProofs only [Bool.false_eq_true, if_false]
        cases h1 : r.effect == 1
        · simp -implicitDefEqProofs only [Bool.false_eq_true, if_false, Bool.or_false]
          exact ih _ _ _ _ hy
        · simp -implicitDefEqProofs only [if_true, Bool.or_true]
          exact ih _ _ _ _ (by simp)
      · simp
theorem decided_pol (f : Rule → Bool) (rules : List Rule) : (decided rules (holdL f 0 rules) == 1) = polBy f rules := decLoop f rules rules [] 0 0 false 0 rfl (by simp)
theorem r_impl_decided {fl f2 : Bool} (k : Nat) (hk : 281474976710656 + 1 ≤ k) (p : Policy) (h : List Int) (hp : p.rules.length ≤ 140737488355328) (hs : h.length ≤ 140737488355328) (hm : ∀ z ∈ h, ∃ j, z = ((j : Nat) : Int) ∧ j < p.rules.length) :
    run E noExt k 60 [p.enc fl, .sl f2 (h.map (AV.int .i64))] [] = some (.int .i64 (decided p.rules h), []) := by
  obtain ⟨k, rfl⟩ : ∃ j, k = j + 1 := ⟨k - 1, by omega⟩
  rw [run_succ rfl rfl, body_eq (nt := 26) (fn := Go.Proofs.Try.f60) (by kernel_rfl) rfl rfl rfl rfl rfl rfl rfl rfl]
  simp -implicitDefEqProofs only [QS, QN, ZRS, ↓ZDS, Go.Proofs.Try.f60, enc_Policy, SN, evCutRow, Int.reduceToNat, id_eq, Int.reduceBEq, Int.reduceLE, Int.reduceLT, SS, one_ne2, num_ne2, TIS, MDS, AV.cells, AV.isCell, Value.cells, Nat.reduceAdd, Nat.reduceEqDiff, Nat.reduceLT, Nat.reduceLeDiff, Nat.reduceMul, Nat.reduceSub, reduceIte]
  rw [ev_loop]
  refine Eq.trans (loop_list (Q := fun g x => thenEnd E.P [] _ 0 (thenEv E _ _ _ _ _ (outOf 0 x)) = some (.int .i64 g, [])) (h) (decStep p.rules) (id)
    (fun i b => { sl := [(2, .ptr 0 0), (5, .int .i64 b), (8, .sl f2 (h.map (AV.int .i64))), (9, .int .i64 (h.length : Nat)), (10, .int .i64 (i : Nat))], bx := [(0, [.int .i64 p.version, .sl fl (p.rules.map (Rule.enc fl))])], nx := 1, nt := 26 }) (fun _ _ => True) (0) ?_ ?_ (by first | omega | (simp; omega)) (trivial) ?_) ?_
  · intro b _
    simp -implicitDefEqProofs only [QS, QN, QG, ZRS, ↓ZDS, ZRG, ↓ZDG, leaf_some, isNormal, ifEv_bool, gate_bool, gateP_bool, gateQ_bool, pick_bool, SN, evCutRow, Int.reduceToNat, id_eq, Int.reduceBEq, Int.reduceLE, Int.reduceLT, SS, one_ne2, num_ne2, TIS, MDS, AV.cells, AV.isCell, Value.cells, Nat.reduceAdd, Nat.reduceEqDiff, Nat.reduceLT, Nat.reduceLeDiff, Nat.reduceMul, Nat.reduceSub, reduceIte]
    repeat' (split <;> (rename_i h; (try simp -implicitDefEqProofs only [Bool.not_eq_true', Bool.not_eq_false', decide_eq_true_eq, decide_eq_false_iff_not] at h); (try simp -implicitDefEqProofs only [QS, QN, QG, ZRS, ↓ZDS, ZRG, ↓ZDG, *, leaf_some, isNormal, ifEv_bool, gate_bool, gateP_bool, gateQ_bool, pick_bool, SN, evCutRow, Int.reduceToNat, id_eq, Int.reduceBEq, Int.reduceLE, Int.reduceLT, SS, one_ne2, num_ne2, TIS, MDS, AV.cells, AV.isCell, Value.cells, Nat.reduceAdd, Nat.reduceEqDiff, Nat.reduceLT, Nat.reduceLeDiff, Nat.reduceMul, Nat.reduceSub, reduceIte])))
  · intro pre c r b hs' _
    have hx := (at_row hs' hs).1; have hc := (at_row hs' hs).2.1; have hlt := (at_row hs' hs).2.2.1; have hw1 := (at_row hs' hs).2.2.2.1; have hl9 := (at_row hs' hs).2.2.2.2
    clear hs'
    obtain ⟨j, rfl, hj⟩ := hm c hc
    have hr : p.rules[j]? = some (p.rules.getD j default) := by
      rw [List.getD_eq_getElem?_getD, List.getElem?_eq_getElem hj]; rfl
    simp -implicitDefEqProofs only [QS, QN, QG, ZRS, ↓ZDS, ZRG, ↓ZDG, enc_Rule, hx, hlt, hw1, hr, decStep, keep_60_3, leaf_some, isNormal, ifEv_bool, gate_bool, gateP_bool, gateQ_bool, pick_bool, SN, evCutRow, Int.reduceToNat, id_eq, Int.reduceBEq, Int.reduceLE, Int.reduceLT, SS, one_ne2, num_ne2, TIS, MDS, AV.cells, AV.isCell, Value.cells, Nat.reduceAdd, Nat.reduceEqDiff, Nat.reduceLT, Nat.reduceLeDiff, Nat.reduceMul, Nat.reduceSub, reduceIte]
    repeat' (split <;> (rename_i h; (try simp -implicitDefEqProofs only [Bool.not_eq_true', Bool.not_eq_false', decide_eq_true_eq, decide_eq_false_iff_not] at h); (try simp -implicitDefEqProofs only [QS, QN, QG, ZRS, ↓ZDS, ZRG, ↓ZDG, *, enc_Rule, hx, hlt, hw1, hr, decStep, keep_60_3, leaf_some, isNormal, ifEv_bool, gate_bool, gateP_bool, gateQ_bool, pick_bool, SN, evCutRow, Int.reduceToNat, id_eq, Int.reduceBEq, Int.reduceLE, Int.reduceLT, SS, one_ne2, num_ne2, TIS, MDS, AV.cells, AV.isCell, Value.cells, Nat.reduceAdd, Nat.reduceEqDiff, Nat.reduceLT, Nat.reduceLeDiff, Nat.reduceMul, Nat.reduceSub, reduceIte])))
  · simp -implicitDefEqProofs only [firstRegion]; rw [keep_60_3]; simp -implicitDefEqProofs only [QS, QN, QG, ZRS, ↓ZDS, ZRG, ↓ZDG, SN, evCutRow, Int.reduceToNat, id_eq, Int.reduceBEq, Int.reduceLE, Int.reduceLT, SS, one_ne2, num_ne2, TIS, MDS, AV.cells, AV.isCell, Value.cells, Nat.reduceAdd, Nat.reduceEqDiff, Nat.reduceLT, Nat.reduceLeDiff, Nat.reduceMul, Nat.reduceSub, reduceIte]; first | done | rfl
  · rfl
noncomputable def ruleBy (a o : Int) (s : List Cond) (v : List Bool) (r : Rule) : Bool := isFor r a o && (isCond r.cond && r.cond.eval fun c => (c.op == 1) || leafVal s v c)
theorem r_spec_PolicyBy {fl f2 f3 : Bool} (k : Nat) (hk : 294669116243968 + 8 ≤ k) (p : Policy) (a o : Int) (s : List Cond) (v : List Bool) (hp : p.w ≤ 1099511627776) (hs0 : wl Cond.w s ≤ 1099511627776) :
    run E noExt k 38 [p.enc fl, .int .i64 a, .int .i64 o, .sl f2 (s.map (Cond.enc f2)), .sl f3 (v.map AV.bool)] [] = some (.bool (polBy (ruleBy a o s v) p.rules), []) := by
  unfold Policy.w at hp
  have hs1 := Nat.le_trans (wl_length _ p.rules) hp
  have hs : p.rules.length ≤ 140737488355328 := by omega
  have c1 : ∀ r ∈ p.rules, run E noExt (k - 1) 50 [r.enc fl, .int .i64 a, .int .i64 o] [] = some (.bool (isFor r a o), []) := fun r _ => r_spec_IsFor _ (by omega) r a o
  have c2 : ∀ r ∈ p.rules, run E noExt (k - 1) 52 [r.cond.enc fl, .sl f2 (s.map (Cond.enc f2)), .sl f3 (v.map AV.bool)] [] = some (.bool (isCond r.cond && r.cond.eval fun c => (c.op == 1) || leafVal s v c), []) :=
    fun r hr => r_spec_EvalBy _ (by omega) r.cond s v (by have h1 := wl_mem (w := Rule.w) hr; have h2 : r.cond.w = r.w := rfl; omega) hs0
  obtain ⟨k, rfl⟩ : ∃ j, k = j + 1 := ⟨k - 1, by omega⟩
  rw [run_succ rfl rfl, body_eq (nt := 49) (fn := Go.Proofs.Try.f38) (by kernel_rfl) rfl rfl rfl rfl rfl rfl rfl rfl]
  simp -implicitDefEqProofs only [Nat.add_sub_cancel] at c1 c2
  simp -implicitDefEqProofs only [QS, QN, ZRS, ↓ZDS, Go.Proofs.Try.f38, enc_Policy, SN, evCutRow, Int.reduceToNat, id_eq, Int.reduceBEq, Int.reduceLE, Int.reduceLT, SS, one_ne2, num_ne2, TIS, MDS, AV.cells, AV.isCell, Value.cells, Nat.reduceAdd, Nat.reduceEqDiff, Nat.reduceLT, Nat.reduceLeDiff, Nat.reduceMul, Nat.reduceSub, reduceIte]
  rw [ev_loop]
  refine Eq.trans (loop_list (Q := fun g x => thenEnd E.P [] _ 0 (thenEv E _ _ _ _ _ (outOf 0 x)) = some (.bool g, [])) (p.rules) (polStep (ruleBy a o s v)) (id)
    (fun i b => { sl := [(1, .int .i64 a), (2, .int .i64 o), (3, .sl f2 (s.map (Cond.enc f2))), (4, .sl f3 (v.map AV.bool)), (5, .ptr 0 0), (11, .bool b), (12, .int .i64 (i : Nat))], bx := [(0, [.int .i64 p.version, .sl fl (p.rules.map (Rule.enc fl))])], nx := 1, nt := 49 }) (fun _ _ => True) (false) ?_ ?_ (by first | omega | (simp; omega)) (trivial) ?_) ?_
  · intro b _
    simp -implicitDefEqProofs only [QS, QN, QG, ZRS, ↓ZDS, ZRG, ↓ZDG, leaf_some, isNormal, ifEv_bool, gate_bool, gateP_bool, gateQ_bool, pick_bool, SN, evCutRow, Int.reduceToNat, id_eq, Int.reduceBEq, Int.reduceLE, Int.reduceLT, SS, one_ne2, num_ne2, TIS, MDS, AV.cells, AV.isCell, Value.cells, Nat.reduceAdd, Nat.reduceEqDiff, Nat.reduceLT, Nat.reduceLeDiff, Nat.reduceMul, Nat.reduceSub, reduceIte]
    repeat' (split <;> (rename_i h; (try simp -implicitDefEqProofs only [Bool.not_eq_true', Bool.not_eq_false', decide_eq_true_eq, decide_eq_false_iff_not] at h); (try simp -implicitDefEqProofs only [QS, QN, QG, ZRS, ↓ZDS, ZRG, ↓ZDG, *, leaf_some, isNormal, ifEv_bool, gate_bool, gateP_bool, gateQ_bool, pick_bool, SN, evCutRow, Int.reduceToNat, id_eq, Int.reduceBEq, Int.reduceLE, Int.reduceLT, SS, one_ne2, num_ne2, TIS, MDS, AV.cells, AV.isCell, Value.cells, Nat.reduceAdd, Nat.reduceEqDiff, Nat.reduceLT, Nat.reduceLeDiff, Nat.reduceMul, Nat.reduceSub, reduceIte])))
  · intro pre c r b hs' _
    have hx := (at_row hs' hs).1; have hc := (at_row hs' hs).2.1; have hlt := (at_row hs' hs).2.2.1; have hw1 := (at_row hs' hs).2.2.2.1; have hl9 := (at_row hs' hs).2.2.2.2
    clear hs'
    have c3 := c1 c hc
    have c4 := c2 c hc
    simp -implicitDefEqProofs only [enc_Rule, enc_Cond] at c3 c4
    have hq : ruleBy a o s v c = (isFor c a o && (isCond c.cond && c.cond.eval fun c => (c.op == 1) || leafVal s v c)) := rfl
    generalize (isCond c.cond && c.cond.eval fun c => (c.op == 1) || leafVal s v c) = q at c4 hq
    clear c1 c2
    simp -implicitDefEqProofs only [QS, QN, QG, ZRS, ↓ZDS, ZRG, ↓ZDG, enc_Rule, hx, hlt, hw1, c3, c4, hq, polStep, keep_38_3, leaf_some, isNormal, ifEv_bool, gate_bool, gateP_bool, gateQ_bool, pick_bool, SN, evCutRow, Int.reduceToNat, id_eq, Int.reduceBEq, Int.reduceLE, Int.reduceLT, SS, one_ne2, num_ne2, TIS, MDS, AV.cells, AV.isCell, Value.cells, Nat.reduceAdd, Nat.reduceEqDiff, Nat.reduceLT, Nat.reduceLeDiff, Nat.reduceMul, Nat.reduceSub, reduceIte]
    repeat' (split <;> (rename_i h; (try simp -implicitDefEqProofs only [Bool.not_eq_true', Bool.not_eq_false', decide_eq_true_eq, decide_eq_false_iff_not] at h); (try simp -implicitDefEqProofs only [QS, QN, QG, ZRS, ↓ZDS, ZRG, ↓ZDG, *, enc_Rule, hx, hlt, hw1, c3, c4, hq, polStep, keep_38_3, leaf_some, isNormal, ifEv_bool, gate_bool, gateP_bool, gateQ_bool, pick_bool, SN, evCutRow, Int.reduceToNat, id_eq, Int.reduceBEq, Int.reduceLE, Int.reduceLT, SS, one_ne2, num_ne2, TIS, MDS, AV.cells, AV.isCell, Value.cells, Nat.reduceAdd, Nat.reduceEqDiff, Nat.reduceLT, Nat.reduceLeDiff, Nat.reduceMul, Nat.reduceSub, reduceIte])))
  · simp -implicitDefEqProofs only [firstRegion]; rw [keep_38_3]; simp -implicitDefEqProofs only [QS, QN, QG, ZRS, ↓ZDS, ZRG, ↓ZDG, SN, evCutRow, Int.reduceToNat, id_eq, Int.reduceBEq, Int.reduceLE, Int.reduceLT, SS, one_ne2, num_ne2, TIS, MDS, AV.cells, AV.isCell, Value.cells, Nat.reduceAdd, Nat.reduceEqDiff, Nat.reduceLT, Nat.reduceLeDiff, Nat.reduceMul, Nat.reduceSub, reduceIte]; first | done | rfl
  · rfl
theorem r_impl_PolicyBy {fl f2 f3 : Bool} (k : Nat) (hk : 884940186000000 + 9 ≤ k) (p : Policy) (a o : Int) (s : List Cond) (v : List Bool) (hp : p.w ≤ 1099511627776) (hs0 : wl Cond.w s ≤ 1099511627776) :
    run E noExt k 44 [p.enc fl, .int .i64 a, .int .i64 o, .sl f2 (s.map (Cond.enc f2)), .sl f3 (v.map AV.bool)] [] = some (.bool (polBy (ruleBy a o s v) p.rules), []) := by
  unfold Policy.w at hp
  have hs1 := Nat.le_trans (wl_length _ p.rules) hp
  have hs : p.rules.length ≤ 140737488355328 := by omega
  have c1 : ∀ r ∈ p.rules, run E noExt (k - 1) 58 [r.enc fl, .int .i64 a, .int .i64 o] [] = some (.bool (isFor r a o), []) := fun r _ => r_impl_IsFor _ (by omega) r a o
  have c2 : ∀ r ∈ p.rules, run E noExt (k - 1) 59 [r.cond.enc fl, .sl f2 (s.map (Cond.enc f2)), .sl f3 (v.map AV.bool)] [] = some (.bool (isCond r.cond && r.cond.eval fun c => (c.op == 1) || leafVal s v c), []) :=
    fun r hr => r_impl_EvalBy _ (by omega) r.cond s v (by have h1 := wl_mem (w := Rule.w) hr; have h2 : r.cond.w = r.w := rfl; omega) hs0
  have hl := holdL_length (ruleBy a o s v) p.rules 0
  have c5 := r_impl_decided (fl := fl) (f2 := true) (k - 1) (by omega) p (holdL (ruleBy a o s v) 0 p.rules) hs (by omega) (fun z hz => by
    obtain ⟨j, h1, h2⟩ := holdL_mem _ _ _ _ hz
    exact ⟨j, by simpa using h1, h2⟩)
  obtain ⟨k, rfl⟩ : ∃ j, k = j + 1 := ⟨k - 1, by omega⟩
  rw [run_succ rfl rfl, body_eq (nt := 43) (fn := Go.Proofs.Try.f44) (by kernel_rfl) rfl rfl rfl rfl rfl rfl rfl rfl]
  simp -implicitDefEqProofs only [Nat.add_sub_cancel, enc_Policy] at c1 c2 c5
  simp -implicitDefEqProofs only [QS, QN, QG, QO, ZRS, ↓ZDS, ZRG, ↓ZDG, ZRO, ↓ZDO, Go.Proofs.Try.f44, enc_Policy, SO, SH, evAppend, rowOf, noref, isRef, isPtr, noPtr, isBad, AV.isUndef, SN, evCutRow, Int.reduceToNat, id_eq, Int.reduceBEq, Int.reduceLE, Int.reduceLT, SS, one_ne2, num_ne2, TIS, MDS, AV.cells, AV.isCell, Value.cells, Nat.reduceAdd, Nat.reduceEqDiff, Nat.reduceLT, Nat.reduceLeDiff, Nat.reduceMul, Nat.reduceSub, reduceIte]
  rw [ev_loop]
  refine Eq.trans (loop_list (Q := fun g x => g = holdL (ruleBy a o s v) 0 p.rules → thenEnd E.P [] _ 0 (thenEv E _ _ _ _ _ (outOf 0 x)) = some (.bool (decided p.rules (holdL (ruleBy a o s v) 0 p.rules) == 1), [])) p.rules (holdStep (ruleBy a o s v)) id
    (fun i b => { sl := [(1, .int .i64 a), (2, .int .i64 o), (3, .sl f2 (s.map (Cond.enc f2))), (4, .sl f3 (v.map AV.bool)), (5, .ptr 0 0), (11, .own 0 false 3 1 (b.map (AV.int .i64))), (16, .sl fl (p.rules.map (Rule.enc fl))), (17, .int .i64 (p.rules.length : Nat)), (18, .int .i64 (i : Nat))],
                  bx := [(0, [.int .i64 p.version, .sl fl (p.rules.map (Rule.enc fl))])], nx := 2, nt := 43 }) (fun i b => b.length ≤ i) [] ?_ ?_ (by omega) (by simp) ?_ ?_) ?_
  · intro b _
    simp -implicitDefEqProofs only [QS, QN, QG, ZRS, ↓ZDS, ZRG, ↓ZDG, leaf_some, isNormal, ifEv_bool, gate_bool, gateP_bool, gateQ_bool, pick_bool, SN, evCutRow, Int.reduceToNat, id_eq, Int.reduceBEq, Int.reduceLE, Int.reduceLT, SS, one_ne2, num_ne2, TIS, MDS, AV.cells, AV.isCell, Value.cells, Nat.reduceAdd, Nat.reduceEqDiff, Nat.reduceLT, Nat.reduceLeDiff, Nat.reduceMul, Nat.reduceSub, reduceIte]
    repeat' (split <;> (rename_i h; (try simp -implicitDefEqProofs only [Bool.not_eq_true', Bool.not_eq_false', decide_eq_true_eq, decide_eq_false_iff_not] at h); (try simp -implicitDefEqProofs only [QS, QN, QG, ZRS, ↓ZDS, ZRG, ↓ZDG, *, leaf_some, isNormal, ifEv_bool, gate_bool, gateP_bool, gateQ_bool, pick_bool, SN, evCutRow, Int.reduceToNat, id_eq, Int.reduceBEq, Int.reduceLE, Int.reduceLT, SS, one_ne2, num_ne2, TIS, MDS, AV.cells, AV.isCell, Value.cells, Nat.reduceAdd, Nat.reduceEqDiff, Nat.reduceLT, Nat.reduceLeDiff, Nat.reduceMul, Nat.reduceSub, reduceIte])))
    intro hb
    subst hb
    simp -implicitDefEqProofs only [QS, QN, QG, QO, ZRS, ↓ZDS, ZRG, ↓ZDG, ZRO, ↓ZDO, c5, SO, SH, evAppend, rowOf, noref, isRef, isPtr, noPtr, isBad, AV.isUndef, SN, evCutRow, Int.reduceToNat, id_eq, Int.reduceBEq, Int.reduceLE, Int.reduceLT, SS, one_ne2, num_ne2, TIS, MDS, AV.cells, AV.isCell, Value.cells, Nat.reduceAdd, Nat.reduceEqDiff, Nat.reduceLT, Nat.reduceLeDiff, Nat.reduceMul, Nat.reduceSub, reduceIte]
  · intro pre c r b hs' hb
    have hx := (at_row hs' hs).1; have hc := (at_row hs' hs).2.1; have hlt := (at_row hs' hs).2.2.1; have hw1 := (at_row hs' hs).2.2.2.1; have hl9 := (at_row hs' hs).2.2.2.2
    clear hs'
    have c3 := c1 c hc
    have c4 := c2 c hc
    simp -implicitDefEqProofs only [enc_Rule, enc_Cond] at c3 c4
    have hq : ruleBy a o s v c = (isFor c a o && (isCond c.cond && c.cond.eval fun c => (c.op == 1) || leafVal s v c)) := rfl
    generalize (isCond c.cond && c.cond.eval fun c => (c.op == 1) || leafVal s v c) = q at c4 hq
    have hm1 : (b.length + 1) * 8 ≤ 140737488355328 := by omega
    have hm2 : b.length + 1 ≤ 9223372036854775807 := by omega
    have hpl : plains [AV.int IntKind.i64 (pre.length : Int)] = true := rfl
    clear c1 c2 c5
    simp -implicitDefEqProofs only [QS, QN, QG, QO, ZRS, ↓ZDS, ZRG, ↓ZDG, ZRO, ↓ZDO, enc_Rule, hx, hlt, hw1, c3, c4, hq, hm1, hm2, hpl, holdStep, List.map_append, SO, SH, evAppend, rowOf, noref, isRef, isPtr, noPtr, isBad, AV.isUndef, keep_44_3, leaf_some, isNormal, ifEv_bool, gate_bool, gateP_bool, gateQ_bool, pick_bool, SN, evCutRow, Int.reduceToNat, id_eq, Int.reduceBEq, Int.reduceLE, Int.reduceLT, SS, one_ne2, num_ne2, TIS, MDS, AV.cells, AV.isCell, Value.cells, Nat.reduceAdd, Nat.reduceEqDiff, Nat.reduceLT, Nat.reduceLeDiff, Nat.reduceMul, Nat.reduceSub, reduceIte]
    repeat' (split <;> (rename_i h; (try simp -implicitDefEqProofs only [Bool.not_eq_true', Bool.not_eq_false', decide_eq_true_eq, decide_eq_false_iff_not] at h); (try simp -implicitDefEqProofs only [QS, QN, QG, QO, ZRS, ↓ZDS, ZRG, ↓ZDG, ZRO, ↓ZDO, *, enc_Rule, hx, hlt, hw1, c3, c4, hq, hm1, hm2, hpl, holdStep, List.map_append, SO, SH, evAppend, rowOf, noref, isRef, isPtr, noPtr, isBad, AV.isUndef, keep_44_3, leaf_some, isNormal, ifEv_bool, gate_bool, gateP_bool, gateQ_bool, pick_bool, SN, evCutRow, Int.reduceToNat, id_eq, Int.reduceBEq, Int.reduceLE, Int.reduceLT, SS, one_ne2, num_ne2, TIS, MDS, AV.cells, AV.isCell, Value.cells, Nat.reduceAdd, Nat.reduceEqDiff, Nat.reduceLT, Nat.reduceLeDiff, Nat.reduceMul, Nat.reduceSub, reduceIte])))
    all_goals first | omega | (simp; omega)
  · simp -implicitDefEqProofs only [firstRegion]; rw [keep_44_3]; simp -implicitDefEqProofs only [QS, QN, QG, ZRS, ↓ZDS, ZRG, ↓ZDG, SN, evCutRow, Int.reduceToNat, id_eq, Int.reduceBEq, Int.reduceLE, Int.reduceLT, SS, one_ne2, num_ne2, TIS, MDS, AV.cells, AV.isCell, Value.cells, Nat.reduceAdd, Nat.reduceEqDiff, Nat.reduceLT, Nat.reduceLeDiff, Nat.reduceMul, Nat.reduceSub, reduceIte]; first | done | rfl
  · rw [holdLoop]; rfl
  · rw [decided_pol]
end Go.Proofs.Ytkadcnfpjppdbaa.Flat
namespace Go.Proofs.Ytkadcnfpjppdbaa.Flat
open Go.Lib
end Go.Proofs.Ytkadcnfpjppdbaa.Flat
namespace Go.Proofs.Ytkadcnfpjppdbaa.Flat
def within (a b n : Int) : Bool := isT a && (isT b && (isT n && inR n a b))
end Go.Proofs.Ytkadcnfpjppdbaa.Flat

namespace Go.Proofs.Ytkadcnfpjppdbaa.Flat
def asks (l : List Choice) (i : Nat) : Bool := l.any fun c => c.atom == (i : Int)
end Go.Proofs.Ytkadcnfpjppdbaa.Flat
namespace Go.Proofs.Ytkadcnfpjppdbaa.Flat
section
variable {Φ : Phi} {nid n a b t : Nat} {w x y z : AV} {dst : Option Nat} {st : St} {P : Program}
theorem look_nil {α : Type} {i : Nat} : look i ([] : List (Nat × α)) = none := rfl
theorem evCall_io1 : evCall Φ [.io] nid n [.ptr a b] [] dst st = evGive Φ nid n [(.io, .ptr a b)] dst st := rfl
theorem evCall_io2 : evCall Φ [.io, .ro] nid n [.ptr a b, x] [] dst st = evGive Φ nid n [(.io, .ptr a b), (.ro, x)] dst st := rfl
theorem evCall_io3 : evCall Φ [.io, .ro, .ro] nid n [.ptr a b, x, y] [] dst st = evGive Φ nid n [(.io, .ptr a b), (.ro, x), (.ro, y)] dst st := rfl
theorem evCall_io4 : evCall Φ [.io, .ro, .ro, .ro] nid n [.ptr a b, x, y, z] [] dst st = evGive Φ nid n [(.io, .ptr a b), (.ro, x), (.ro, y), (.ro, z)] dst st := rfl
def finish0 (P : Program) (md : List Mode) (t : Nat) (st : St) : Option (AV × List (List AV)) := finish P md [.tmp t] 1 st
def finJ (P : Program) (md : List Mode) (t : Nat) (st : St) (v : AV) : Option (AV × List (List AV)) := if isPtrB v = true then finish0 P md t st else finI st v
theorem finJ_io (m : Mode) (md : List Mode) (hm : mutSlots 0 (m :: md) = []) : finish P (m :: md) [.tmp t] 1 st = finJ P (m :: md) t st (st.get t) := by
  unfold finJ
  split
  · rfl
  · rename_i h
    exact finish_io1 hm (by simpa using h)
theorem finJ_1 : finish P [.io] [.tmp t] 1 st = finJ P [.io] t st (st.get t) := finJ_io _ _ rfl
theorem finJ_2 : finish P [.io, .ro] [.tmp t] 1 st = finJ P [.io, .ro] t st (st.get t) := finJ_io _ _ rfl
theorem finJ_3 : finish P [.io, .ro, .ro] [.tmp t] 1 st = finJ P [.io, .ro, .ro] t st (st.get t) := finJ_io _ _ rfl
theorem finJ_4 : finish P [.io, .ro, .ro, .ro] [.tmp t] 1 st = finJ P [.io, .ro, .ro, .ro] t st (st.get t) := finJ_io _ _ rfl
variable {md : List Mode}
theorem finJ_int {k : IntKind} {i : Int} : finJ P md t st (.int k i) = finI st (.int k i) := rfl
theorem finJ_bool {c : Bool} : finJ P md t st (.bool c) = finI st (.bool c) := rfl
theorem finJ_str {s : ByteArray} : finJ P md t st (.str s) = finI st (.str s) := rfl
theorem finJ_nils : finJ P md t st .nils = finI st .nils := rfl
theorem finJ_agg {cs : List AV} : finJ P md t st (.agg cs) = finI st (.agg cs) := rfl
theorem finJ_own {id e sz : Nat} {fz : Bool} {xs : List AV} : finJ P md t st (.own id fz e sz xs) = finI st (.own id fz e sz xs) := rfl
theorem finJ_sl {fl : Bool} {xs : List AV} : finJ P md t st (.sl fl xs) = finI st (.sl fl xs) := rfl
theorem finJ_tup {cs : List AV} : finJ P md t st (.tup cs) = finI st (.tup cs) := rfl
end
end Go.Proofs.Ytkadcnfpjppdbaa.Flat
namespace Go.Proofs.Ytkadcnfpjppdbaa.Flat
/-- The row of a variable's nodes: none yet, or ours. -/
noncomputable def encR (id : Nat) (s : List Choice) : AV := if s = [] then .nils else .own id false 99 3 (s.map (Choice.enc true))
noncomputable def rowsN (id : Nat) (s : List Choice) : List Nat := if s = [] then [] else [id]
noncomputable def rowsL (s : List Choice) : Nat := if s = [] then 0 else 1
theorem encR_nil {id : Nat} : encR id [] = .nils := if_pos rfl
theorem encR_ne {id : Nat} {s : List Choice} (h : s ≠ []) : encR id s = .own id false 99 3 (s.map (Choice.enc true)) := if_neg h
theorem encR_one {id : Nat} {c : Choice} : encR id [c] = .own id false 99 3 [c.enc true] := if_neg (by simp)
theorem rowsN_nil {id : Nat} : rowsN id [] = [] := if_pos rfl
theorem rowsN_ne {id : Nat} {s : List Choice} (h : s ≠ []) : rowsN id s = [id] := if_neg h
theorem rowsL_nil : rowsL [] = 0 := if_pos rfl
theorem append_ne {s : List Choice} {c : Choice} : s ++ [c] ≠ [] := by simp
theorem rows_encR {id : Nat} {s : List Choice} : (encR id s).rows = rowsN id s := by unfold encR rowsN; split <;> rfl
theorem boxes_encR {id : Nat} {s : List Choice} : (encR id s).boxes = [] := by unfold encR; split <;> rfl
theorem isCell_encR {id : Nat} {s : List Choice} : (encR id s).isCell = true := by unfold encR; split <;> rfl
theorem len_rowsN {id : Nat} {s : List Choice} : (rowsN id s).length = rowsL s := by unfold rowsN rowsL; split <;> rfl
theorem dedup_rowsN {id : Nat} {s : List Choice} : dedup (rowsN id s) = rowsN id s := by unfold rowsN; split <;> rfl
theorem nodup_rowsN {id : Nat} {s : List Choice} : nodupB (rowsN id s) = true := by unfold rowsN; split <;> rfl
theorem all_rowsN {id : Nat} {s : List Choice} : ((rowsN id s).all fun r => decide (r ∈ rowsN id s)) = true := by unfold rowsN; split <;> simp
theorem any_encR {id : Nat} {s : List Choice} : AV.any isBad (encR id s) = false := by unfold encR; split <;> rfl
theorem mapO_encR {id : Nat} {s : List Choice} {p : Nat → Nat → AV} {h : Bool → Nat → Bool → Nat → Nat → List AV → Nat → Nat → AV} : AV.mapO (fun i fz e sz xs => .own (idx (rowsN id s) i) fz e sz xs) p h (fun _ => .nils) (encR id s) = encR 0 s := by
  unfold encR rowsN
  split
  · rfl
  · simp [AV.mapO, idx]
theorem back_rowsN {nid id : Nat} {s : List Choice} {ps : List (Nat × AV)} {st : St} : St.back nid (rowsN id s) ps st = st.mapO (backO nid (rowsN id s) ps) .ptr (backE (rowsN id s)) := rfl
theorem scals_Choice (m : List Choice) : AV.scals (m.map (Choice.enc true)) = true := by
  induction m with
  | nil => rfl
  | cons c m ih => simp -implicitDefEqProofs only [List.map_cons, AV.scals, enc_Choice, AV.scal, Bool.true_and]; exact ih
theorem ref_encR {id : Nat} {s : List Choice} : AV.any isRef (encR id s) = false := by
  unfold encR
  split
  · rfl
  · simp -implicitDefEqProofs only [AV.any, isRef, scals_Choice, Bool.not_true]
theorem scal_encR {s : List Choice} : noref (encR 0 s) = true := by unfold noref; rw [ref_encR]; rfl
theorem small_rowsN {s : List Choice} : ((rowsN 0 s).all fun i => decide (i < 8)) = true := by unfold rowsN; split <;> simp
theorem imp_encR {nid id : Nat} {s : List Choice} {p : Nat → Nat → AV} {h : Bool → Nat → Bool → Nat → Nat → List AV → Nat → Nat → AV} : AV.mapO (fun i fz e sz xs => .own (nid + i) fz e sz xs) p h (fun _ => .nils) (encR id s) = encR (nid + id) s := by
  unfold encR
  split <;> rfl
theorem lend_encR4 {bx : Nat → Option (List AV)} {id : Nat} {s : List Choice} : lend bx 4 (encR id s) = .sl true (s.map (Choice.enc true)) := by
  unfold encR
  split
  · rename_i h
    subst h
    rfl
  · simp -implicitDefEqProofs only [lend, AV.mapO, shuts_Choice]
theorem give_build {Φ : Phi} {nid f n id b : Nat} {dst : Option Nat} {st : St} {ns ns1 : List Choice} {root lo : Int} {u v w : AV} (hu : u.any isPtr = false) (hur : u.rows = []) (hv : v.any isPtr = false) (hvr : v.rows = []) (hw : w.any isPtr = false) (hwr : w.rows = []) (hul : lend st.box 4 u = u) (hvl : lend st.box 4 v = v) (hwl : lend st.box 4 w = w)
    (hb : st.box b = some [.int .i64 (n : Nat), encR id ns, .int .i64 root])
    (hΦ : Φ f [.ptr 0 0, u, v, w] [[.int .i64 (n : Nat), encR 0 ns, .int .i64 root]] = some (.int .i64 lo, [[.int .i64 (n : Nat), encR 0 ns1, .int .i64 root]])) :
    evCall Φ [.io, .ro, .ro, .ro] nid f [.ptr b 0, u, v, w] [] dst st = (((st.back nid (rowsN id ns) []).setBox b [.int .i64 (n : Nat), encR nid ns1, .int .i64 root]).put dst (.int .i64 lo)) := by
  have hsc : AV.scals (ns1.map (Choice.enc true)) = true := scals_Choice _
  rcases Classical.em (ns = []) with e0 | e0 <;> rcases Classical.em (ns1 = []) with e1 | e1
  all_goals
    simp -implicitDefEqProofs only [encR_nil, rowsN_nil, encR_ne, rowsN_ne, e0, e1, ne_eq, not_false_eq_true] at hb hΦ ⊢
    simp -implicitDefEqProofs only [QS, QN, QG, QO, ZRS, ↓ZDS, ZRG, ↓ZDG, ZRO, ↓ZDO, hb, hu, hur, hv, hvr, hw, hwr, hul, hvl, hwl, hΦ, hsc, look_nil, evCall_io1, evCall_io2, evCall_io3, evCall_io4, finJ_1, finJ_2, finJ_3, finJ_4, finJ_int, finJ_bool, finJ_str, finJ_nils, finJ_agg, finJ_own, finJ_sl, finJ_tup, look_cons, reduceCtorEq, evCall_mutOwn, evCall_mutAgg, evGive, giveRows, ioBoxes, mutArgs, roArgs, handArg, mutSlots, isPtrB, pairs, pairss, back_nil, back_cons, backO, backE, setBoxes, importB, mode_mut, mode_give, mode_io, mode_ro, List.zip_cons_cons, List.zip_nil_left, List.zip_nil_right, ite_self, ite_true, ite_false, finish_give, finish_mut1, finish_io0, finish_io2, finish_io3, finish_ioc, finI, finC, finW_ptr, SO, SH, evAppend, rowOf, noref, isRef, isPtr, noPtr, isBad, AV.isUndef, SN, evCutRow, Int.reduceToNat, id_eq, Int.reduceBEq, Int.reduceLE, Int.reduceLT, SS, one_ne2, num_ne2, TIS, MDS, AV.cells, AV.isCell, Value.cells, Nat.reduceAdd, Nat.reduceEqDiff, Nat.reduceLT, Nat.reduceLeDiff, Nat.reduceMul, Nat.reduceSub, reduceIte]
noncomputable def bldJoin (a : Nat) (lo hi : Int) (ns : List Choice) : Int × List Choice :=
  if (lo == hi) = true then (lo, ns) else
  if 0 ≤ indexBy (fun c => decide ((⟨(a : Nat), lo, hi⟩ : Choice) = c)) 0 ns then (indexBy (fun c => decide ((⟨(a : Nat), lo, hi⟩ : Choice) = c)) 0 ns, ns)
  else ((ns.length : Nat), ns ++ [⟨(a : Nat), lo, hi⟩])
theorem bldJoin_len (a : Nat) (lo hi : Int) (ns : List Choice) : (bldJoin a lo hi ns).2.length ≤ ns.length + 1 := by
  unfold bldJoin
  split
  · simp only; omega
  · split
    · simp only; omega
    · simp -implicitDefEqProofs only [List.length_append, List.length_singleton]; omega
noncomputable def bld (table : List Bool) : Nat → Nat → Nat → List Choice → Int × List Choice
  | 0, a, g, ns => (if table.getD g false = true then -1 else -2, ns)
  | m + 1, a, g, ns => bldJoin a (bld table m (a + 1) g ns).1 (bld table m (a + 1) (g + 2 ^ a) (bld table m (a + 1) g ns).2).1 (bld table m (a + 1) (g + 2 ^ a) (bld table m (a + 1) g ns).2).2
theorem bld_len (table : List Bool) : ∀ (m a g : Nat) (ns : List Choice), (bld table m a g ns).2.length ≤ ns.length + (2 ^ m - 1)
  | 0, a, g, ns => by simp [bld]
  | m + 1, a, g, ns => by
    have h1 := bld_len table m (a + 1) g ns
    have h2 := bld_len table m (a + 1) (g + 2 ^ a) (bld table m (a + 1) g ns).2
    have h3 : 0 < 2 ^ m := Nat.pow_pos (by decide)
    have h4 : 2 ^ (m + 1) = 2 * 2 ^ m := by rw [Nat.pow_succ]; omega
    have h5 := bldJoin_len a (bld table m (a + 1) g ns).1 (bld table m (a + 1) (g + 2 ^ a) (bld table m (a + 1) g ns).2).1 (bld table m (a + 1) (g + 2 ^ a) (bld table m (a + 1) g ns).2).2
    simp -implicitDefEqProofs only [bld]
    omega
end Go.Proofs.Ytkadcnfpjppdbaa.Flat

