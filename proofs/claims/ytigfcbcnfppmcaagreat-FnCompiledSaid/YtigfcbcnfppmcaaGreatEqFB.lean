/-
A policy by the values of its atoms.
-/
import Derived.Test.YtigfcbcnfppmcaaGreatEqK
import Derived.Test.YtigfcbcnfppmcaaGreatEqFA
import Derived.Test.YtigfcbcnfppmcaaGreatEqL
import Derived.Test.YtigfcbcnfppmcaaGreatEqTO
set_option linter.unusedVariables false
set_option linter.unusedSimpArgs false
set_option maxRecDepth 10000
namespace Go.Proofs.YtigfcbcnfppmcaaGreat.Flat
def polStep (f : Rule → Bool) (_ : Nat) (r : Rule) (yes : Bool) : Sum Bool Bool := if f r = true then (if (r.effect == 0) = true then .inl false else .inr (yes || (r.effect == 1))) else .inr yes
def polBy (f : Rule → Bool) (s : List Rule) : Bool := loopL (polStep f) id 0 s false
def holdStep (f : Rule → Bool) (i : Nat) (r : Rule) (b : List Int) : Sum (List Int) (List Int) := .inr (if f r = true then b ++ [(i : Int)] else b)
def holdL (f : Rule → Bool) : Nat → List Rule → List Int
  | _, [] => []
  | i, r :: s => if f r = true then (i : Int) :: holdL f (i + 1) s else holdL f (i + 1) s
theorem holdLoop (f : Rule → Bool) : ∀ (s : List Rule) (i : Nat) (b : List Int), loopL (holdStep f) id i s b = b ++ holdL f i s
  | [], i, b => by simp [loopL, holdL]
  | r :: s, i, b => by
    simp -implicitDefEqProofs only [loopL, holdStep, holdL]
    rw [holdLoop f s]
    cases f r <;> simp
theorem holdL_length (f : Rule → Bool) : ∀ (s : List Rule) (i : Nat), (holdL f i s).length ≤ s.length
  | [], i => by simp [holdL]
  | r :: s, i => by
    have := holdL_length f s (i + 1)
    simp -implicitDefEqProofs only [holdL]
    split <;> simp <;> omega
theorem holdL_mem (f : Rule → Bool) : ∀ (s : List Rule) (i : Nat) (z : Int), z ∈ holdL f i s → ∃ j, z = ((i + j : Nat) : Int) ∧ j < s.length
  | [], i, z, h => by simp [holdL] at h
  | r :: s, i, z, h => by
    simp -implicitDefEqProofs only [holdL] at h
    have go : z ∈ holdL f (i + 1) s → ∃ j, z = ((i + j : Nat) : Int) ∧ j < (r :: s).length := fun h => by
      obtain ⟨j, h1, h2⟩ := holdL_mem f s (i + 1) z h
      exact ⟨j + 1, by omega, by simp; omega⟩
    split at h
    · rcases List.mem_cons.1 h with rfl | h
      · exact ⟨0, by simp, by simp⟩
      · exact go h
    · exact go h
def decStep (rules : List Rule) (_ : Nat) (z : Int) (out : Int) : Sum Int Int :=
  if ((rules.getD z.toNat default).effect == 0) = true then .inl 0 else if ((rules.getD z.toNat default).effect == 1) = true then .inr 1 else .inr out
def decided (rules : List Rule) (hold : List Int) : Int := loopL (decStep rules) id 0 hold 0
theorem decLoop (f : Rule → Bool) (rules : List Rule) : ∀ (s pre : List Rule) (i : Nat) (out : Int) (yes : Bool) (q : Nat), rules = pre ++ s → (out == 1) = yes →
    (loopL (decStep rules) id i (holdL f pre.length s) out == 1) = loopL (polStep f) id q s yes
  | [], pre, i, out, yes, q, hr, hy => by simpa [loopL, holdL] using hy
  | r :: s, pre, i, out, yes, q, hr, hy => by
    have hg : rules.getD ((pre.length : Nat) : Int).toNat default = r := by rw [hr]; simp
    have ih := fun i out yes q h => decLoop f rules s (pre ++ [r]) i out yes q (by rw [hr]; simp) h
    simp -implicitDefEqProofs only [List.length_append, List.length_cons, List.length_nil] at ih
    simp -implicitDefEqProofs only [holdL, loopL, polStep]
    cases hf : f r
    · simp -implicitDefEqProofs only [Bool.false_eq_true, if_false]
      exact ih _ _ _ _ hy
    · simp -implicitDefEqProofs only [if_true, loopL, decStep, hg]
      cases h0 : r.effect == 0
      · simp -implicitDefEqProofs only [Bool.false_eq_true, if_false]
        cases h1 : r.effect == 1
        · simp -implicitDefEqProofs only [Bool.false_eq_true, if_false, Bool.or_false]
          exact ih _ _ _ _ hy
        · simp -implicitDefEqProofs only [if_true, Bool.or_true]
          exact ih _ _ _ _ (by simp)
      · simp
theorem decided_pol (f : Rule → Bool) (rules : List Rule) : (decided rules (holdL f 0 rules) == 1) = polBy f rules := decLoop f rules rules [] 0 0 false 0 rfl (by simp)
theorem r_impl_decided {fl f2 : Bool} (k : Nat) (hk : 281474976710656 + 1 ≤ k) (p : Policy) (h : List Int) (hp : p.rules.length ≤ 140737488355328) (hs : h.length ≤ 140737488355328) (hm : ∀ z ∈ h, ∃ j, z = ((j : Nat) : Int) ∧ j < p.rules.length) :
    run E noExt k 51 [p.enc fl, .sl f2 (h.map (AV.int .i64))] [] = some (.int .i64 (decided p.rules h), []) := by
  obtain ⟨k, rfl⟩ : ∃ j, k = j + 1 := ⟨k - 1, by omega⟩
  rw [run_succ rfl rfl, body_eq (nt := 26) (fn := Go.Proofs.Tryz.f51) (by kernel_rfl) rfl rfl rfl rfl rfl rfl rfl rfl]
  simp -implicitDefEqProofs only [QS, QN, ZRS, ↓ZDS, Go.Proofs.Tryz.f51, enc_Policy, SN, evCutRow, Int.reduceToNat, id_eq, Int.reduceBEq, Int.reduceLE, Int.reduceLT, SS, one_ne2, num_ne2, TIS, MDS, AV.cells, AV.isCell, Value.cells, Nat.reduceAdd, Nat.reduceEqDiff, Nat.reduceLT, Nat.reduceLeDiff, Nat.reduceMul, Nat.reduceSub, reduceIte]
  rw [ev_loop]
  refine Eq.trans (loop_list (Q := fun g x => thenEnd E.P [] _ 0 (thenEv E _ _ _ _ _ (outOf 0 x)) = some (.int .i64 g, [])) (h) (decStep p.rules) (id)
    (fun i b => { sl := [(2, .ptr 0 0), (5, .int .i64 b), (8, .sl f2 (h.map (AV.int .i64))), (9, .int .i64 (h.length : Nat)), (10, .int .i64 (i : Nat))], bx := [(0, [.int .i64 p.version, .sl fl (p.rules.map (Rule.enc fl))])], nx := 1, nt := 26 }) (fun _ _ => True) (0) ?_ ?_ (by first | omega | (simp; omega)) (trivial) ?_) ?_
  · intro b _
    simp -implicitDefEqProofs only [QS, QN, QG, ZRS, ↓ZDS, ZRG, ↓ZDG, leaf_some, isNormal, ifEv_bool, gate_bool, gateP_bool, gateQ_bool, pick_bool, SN, evCutRow, Int.reduceToNat, id_eq, Int.reduceBEq, Int.reduceLE, Int.reduceLT, SS, one_ne2, num_ne2, TIS, MDS, AV.cells, AV.isCell, Value.cells, Nat.reduceAdd, Nat.reduceEqDiff, Nat.reduceLT, Nat.reduceLeDiff, Nat.reduceMul, Nat.reduceSub, reduceIte]
    repeat' (split <;> (rename_i h; (try simp -implicitDefEqProofs only [Bool.not_eq_true', Bool.not_eq_false', decide_eq_true_eq, decide_eq_false_iff_not] at h); (try simp -implicitDefEqProofs only [QS, QN, QG, ZRS, ↓ZDS, ZRG, ↓ZDG, *, leaf_some, isNormal, ifEv_bool, gate_bool, gateP_bool, gateQ_bool, pick_bool, SN, evCutRow, Int.reduceToNat, id_eq, Int.reduceBEq, Int.reduceLE, Int.reduceLT, SS, one_ne2, num_ne2, TIS, MDS, AV.cells, AV.isCell, Value.cells, Nat.reduceAdd, Nat.reduceEqDiff, Nat.reduceLT, Nat.reduceLeDiff, Nat.reduceMul, Nat.reduceSub, reduceIte])))
  · intro pre c r b hs' _
    have hx := (at_row hs' hs).1; have hc := (at_row hs' hs).2.1; have hlt := (at_row hs' hs).2.2.1; have hw1 := (at_row hs' hs).2.2.2.1; have hl9 := (at_row hs' hs).2.2.2.2
    clear hs'
    obtain ⟨j, rfl, hj⟩ := hm c hc
    have hr : p.rules[j]? = some (p.rules.getD j default) := by
      rw [List.getD_eq_getElem?_getD, List.getElem?_eq_getElem hj]; rfl
    simp -implicitDefEqProofs only [QS, QN, QG, ZRS, ↓ZDS, ZRG, ↓ZDG, enc_Rule, hx, hlt, hw1, hr, decStep, keep_51_3, leaf_some, isNormal, ifEv_bool, gate_bool, gateP_bool, gateQ_bool, pick_bool, SN, evCutRow, Int.reduceToNat, id_eq, Int.reduceBEq, Int.reduceLE, Int.reduceLT, SS, one_ne2, num_ne2, TIS, MDS, AV.cells, AV.isCell, Value.cells, Nat.reduceAdd, Nat.reduceEqDiff, Nat.reduceLT, Nat.reduceLeDiff, Nat.reduceMul, Nat.reduceSub, reduceIte]
    repeat' (split <;> (rename_i h; (try simp -implicitDefEqProofs only [Bool.not_eq_true', Bool.not_eq_false', decide_eq_true_eq, decide_eq_false_iff_not] at h); (try simp -implicitDefEqProofs only [QS, QN, QG, ZRS, ↓ZDS, ZRG, ↓ZDG, *, enc_Rule, hx, hlt, hw1, hr, decStep, keep_51_3, leaf_some, isNormal, ifEv_bool, gate_bool, gateP_bool, gateQ_bool, pick_bool, SN, evCutRow, Int.reduceToNat, id_eq, Int.reduceBEq, Int.reduceLE, Int.reduceLT, SS, one_ne2, num_ne2, TIS, MDS, AV.cells, AV.isCell, Value.cells, Nat.reduceAdd, Nat.reduceEqDiff, Nat.reduceLT, Nat.reduceLeDiff, Nat.reduceMul, Nat.reduceSub, reduceIte])))
  · simp -implicitDefEqProofs only [firstRegion]; rw [keep_51_3]; simp -implicitDefEqProofs only [QS, QN, QG, ZRS, ↓ZDS, ZRG, ↓ZDG, SN, evCutRow, Int.reduceToNat, id_eq, Int.reduceBEq, Int.reduceLE, Int.reduceLT, SS, one_ne2, num_ne2, TIS, MDS, AV.cells, AV.isCell, Value.cells, Nat.reduceAdd, Nat.reduceEqDiff, Nat.reduceLT, Nat.reduceLeDiff, Nat.reduceMul, Nat.reduceSub, reduceIte]; first | done | rfl
  · rfl
noncomputable def ruleBy (a o : Int) (s : List Cond) (v : List Bool) (r : Rule) : Bool := isFor r a o && (isCond r.cond && r.cond.eval fun c => (c.op == 1) || leafVal s v c)
theorem r_impl_PolicyBy {fl f2 f3 : Bool} (k : Nat) (hk : 884940186000000 + 9 ≤ k) (p : Policy) (a o : Int) (s : List Cond) (v : List Bool) (hp : p.w ≤ 1099511627776) (hs0 : wl Cond.w s ≤ 1099511627776) :
    run E noExt k 60 [p.enc fl, .int .i64 a, .int .i64 o, .sl f2 (s.map (Cond.enc f2)), .sl f3 (v.map AV.bool)] [] = some (.bool (polBy (ruleBy a o s v) p.rules), []) := by
  unfold Policy.w at hp
  have hs1 := Nat.le_trans (wl_length _ p.rules) hp
  have hs : p.rules.length ≤ 140737488355328 := by omega
  have c1 : ∀ r ∈ p.rules, run E noExt (k - 1) 22 [r.enc fl, .int .i64 a, .int .i64 o] [] = some (.bool (isFor r a o), []) := fun r _ => r_impl_IsFor _ (by omega) r a o
  have c2 : ∀ r ∈ p.rules, run E noExt (k - 1) 93 [r.cond.enc fl, .sl f2 (s.map (Cond.enc f2)), .sl f3 (v.map AV.bool)] [] = some (.bool (isCond r.cond && r.cond.eval fun c => (c.op == 1) || leafVal s v c), []) :=
    fun r hr => r_impl_EvalBy _ (by omega) r.cond s v (by have h1 := wl_mem (w := Rule.w) hr; have h2 : r.cond.w = r.w := rfl; omega) hs0
  have hl := holdL_length (ruleBy a o s v) p.rules 0
  have c5 := r_impl_decided (fl := fl) (f2 := true) (k - 1) (by omega) p (holdL (ruleBy a o s v) 0 p.rules) hs (by omega) (fun z hz => by
    obtain ⟨j, h1, h2⟩ := holdL_mem _ _ _ _ hz
    exact ⟨j, by simpa using h1, h2⟩)
  obtain ⟨k, rfl⟩ : ∃ j, k = j + 1 := ⟨k - 1, by omega⟩
  rw [run_succ rfl rfl, body_eq (nt := 43) (fn := Go.Proofs.Tryz.f60) (by kernel_rfl) rfl rfl rfl rfl rfl rfl rfl rfl]
  simp -implicitDefEqProofs only [Nat.add_sub_cancel, enc_Policy] at c1 c2 c5
  simp -implicitDefEqProofs only [QS, QN, QG, QO, ZRS, ↓ZDS, ZRG, ↓ZDG, ZRO, ↓ZDO, Go.Proofs.Tryz.f60, enc_Policy, SO, SH, evAppend, rowOf, noref, isRef, isPtr, noPtr, isBad, AV.isUndef, SN, evCutRow, Int.reduceToNat, id_eq, Int.reduceBEq, Int.reduceLE, Int.reduceLT, SS, one_ne2, num_ne2, TIS, MDS, AV.cells, AV.isCell, Value.cells, Nat.reduceAdd, Nat.reduceEqDiff, Nat.reduceLT, Nat.reduceLeDiff, Nat.reduceMul, Nat.reduceSub, reduceIte]
  rw [ev_loop]
  refine Eq.trans (loop_list (Q := fun g x => g = holdL (ruleBy a o s v) 0 p.rules → thenEnd E.P [] _ 0 (thenEv E _ _ _ _ _ (outOf 0 x)) = some (.bool (decided p.rules (holdL (ruleBy a o s v) 0 p.rules) == 1), [])) p.rules (holdStep (ruleBy a o s v)) id
    (fun i b => { sl := [(1, .int .i64 a), (2, .int .i64 o), (3, .sl f2 (s.map (Cond.enc f2))), (4, .sl f3 (v.map AV.bool)), (5, .ptr 0 0), (11, .own 0 false 3 1 (b.map (AV.int .i64))), (16, .sl fl (p.rules.map (Rule.enc fl))), (17, .int .i64 (p.rules.length : Nat)), (18, .int .i64 (i : Nat))],
                  bx := [(0, [.int .i64 p.version, .sl fl (p.rules.map (Rule.enc fl))])], nx := 2, nt := 43 }) (fun i b => b.length ≤ i) [] ?_ ?_ (by omega) (by simp) ?_ ?_) ?_
  · intro b _
    simp -implicitDefEqProofs only [QS, QN, QG, ZRS, ↓ZDS, ZRG, ↓ZDG, leaf_some, isNormal, ifEv_bool, gate_bool, gateP_bool, gateQ_bool, pick_bool, SN, evCutRow, Int.reduceToNat, id_eq, Int.reduceBEq, Int.reduceLE, Int.reduceLT, SS, one_ne2, num_ne2, TIS, MDS, AV.cells, AV.isCell, Value.cells, Nat.reduceAdd, Nat.reduceEqDiff, Nat.reduceLT, Nat.reduceLeDiff, Nat.reduceMul, Nat.reduceSub, reduceIte]
    repeat' (split <;> (rename_i h; (try simp -implicitDefEqProofs only [Bool.not_eq_true', Bool.not_eq_false', decide_eq_true_eq, decide_eq_false_iff_not] at h); (try simp -implicitDefEqProofs only [QS, QN, QG, ZRS, ↓ZDS, ZRG, ↓ZDG, *, leaf_some, isNormal, ifEv_bool, gate_bool, gateP_bool, gateQ_bool, pick_bool, SN, evCutRow, Int.reduceToNat, id_eq, Int.reduceBEq, Int.reduceLE, Int.reduceLT, SS, one_ne2, num_ne2, TIS, MDS, AV.cells, AV.isCell, Value.cells, Nat.reduceAdd, Nat.reduceEqDiff, Nat.reduceLT, Nat.reduceLeDiff, Nat.reduceMul, Nat.reduceSub, reduceIte])))
    intro hb
    subst hb
    simp -implicitDefEqProofs only [QS, QN, QG, QO, ZRS, ↓ZDS, ZRG, ↓ZDG, ZRO, ↓ZDO, c5, SO, SH, evAppend, rowOf, noref, isRef, isPtr, noPtr, isBad, AV.isUndef, SN, evCutRow, Int.reduceToNat, id_eq, Int.reduceBEq, Int.reduceLE, Int.reduceLT, SS, one_ne2, num_ne2, TIS, MDS, AV.cells, AV.isCell, Value.cells, Nat.reduceAdd, Nat.reduceEqDiff, Nat.reduceLT, Nat.reduceLeDiff, Nat.reduceMul, Nat.reduceSub, reduceIte]
  · intro pre c r b hs' hb
    have hx := (at_row hs' hs).1; have hc := (at_row hs' hs).2.1; have hlt := (at_row hs' hs).2.2.1; have hw1 := (at_row hs' hs).2.2.2.1; have hl9 := (at_row hs' hs).2.2.2.2
    clear hs'
    have c3 := c1 c hc
    have c4 := c2 c hc
    simp -implicitDefEqProofs only [enc_Rule, enc_Cond] at c3 c4
    have hq : ruleBy a o s v c = (isFor c a o && (isCond c.cond && c.cond.eval fun c => (c.op == 1) || leafVal s v c)) := rfl
    generalize (isCond c.cond && c.cond.eval fun c => (c.op == 1) || leafVal s v c) = q at c4 hq
    have hm1 : (b.length + 1) * 8 ≤ 140737488355328 := by omega
    have hm2 : b.length + 1 ≤ 9223372036854775807 := by omega
    have hpl : plains [AV.int IntKind.i64 (pre.length : Int)] = true := rfl
    clear c1 c2 c5
    simp -implicitDefEqProofs only [QS, QN, QG, QO, ZRS, ↓ZDS, ZRG, ↓ZDG, ZRO, ↓ZDO, enc_Rule, hx, hlt, hw1, c3, c4, hq, hm1, hm2, hpl, holdStep, List.map_append, SO, SH, evAppend, rowOf, noref, isRef, isPtr, noPtr, isBad, AV.isUndef, keep_60_3, leaf_some, isNormal, ifEv_bool, gate_bool, gateP_bool, gateQ_bool, pick_bool, SN, evCutRow, Int.reduceToNat, id_eq, Int.reduceBEq, Int.reduceLE, Int.reduceLT, SS, one_ne2, num_ne2, TIS, MDS, AV.cells, AV.isCell, Value.cells, Nat.reduceAdd, Nat.reduceEqDiff, Nat.reduceLT, Nat.reduceLeDiff, Nat.reduceMul, Nat.reduceSub, reduceIte]
    repeat' (split <;> (rename_i h; (try simp -implicitDefEqProofs only [Bool.not_eq_true', Bool.not_eq_false', decide_eq_true_eq, decide_eq_false_iff_not] at h); (try simp -implicitDefEqProofs only [QS, QN, QG, QO, ZRS, ↓ZDS, ZRG, ↓ZDG, ZRO, ↓ZDO, *, enc_Rule, hx, hlt, hw1, c3, c4, hq, hm1, hm2, hpl, holdStep, List.map_append, SO, SH, evAppend, rowOf, noref, isRef, isPtr, noPtr, isBad, AV.isUndef, keep_60_3, leaf_some, isNormal, ifEv_bool, gate_bool, gateP_bool, gateQ_bool, pick_bool, SN, evCutRow, Int.reduceToNat, id_eq, Int.reduceBEq, Int.reduceLE, Int.reduceLT, SS, one_ne2, num_ne2, TIS, MDS, AV.cells, AV.isCell, Value.cells, Nat.reduceAdd, Nat.reduceEqDiff, Nat.reduceLT, Nat.reduceLeDiff, Nat.reduceMul, Nat.reduceSub, reduceIte])))
    all_goals first | omega | (simp; omega)
  · simp -implicitDefEqProofs only [firstRegion]; rw [keep_60_3]; simp -implicitDefEqProofs only [QS, QN, QG, ZRS, ↓ZDS, ZRG, ↓ZDG, SN, evCutRow, Int.reduceToNat, id_eq, Int.reduceBEq, Int.reduceLE, Int.reduceLT, SS, one_ne2, num_ne2, TIS, MDS, AV.cells, AV.isCell, Value.cells, Nat.reduceAdd, Nat.reduceEqDiff, Nat.reduceLT, Nat.reduceLeDiff, Nat.reduceMul, Nat.reduceSub, reduceIte]; first | done | rfl
  · rw [holdLoop]; rfl
  · rw [decided_pol]
end Go.Proofs.YtigfcbcnfppmcaaGreat.Flat
set_option linter.unusedVariables false
set_option linter.unusedSimpArgs false
set_option maxRecDepth 10000
namespace Go.Proofs.YtigfcbcnfppmcaaGreat.Flat
end Go.Proofs.YtigfcbcnfppmcaaGreat.Flat
set_option linter.unusedVariables false
set_option linter.unusedSimpArgs false
set_option maxRecDepth 10000
namespace Go.Proofs.YtigfcbcnfppmcaaGreat.Flat
theorem or_small : ∀ a < 6, ∀ g < 2 ^ a, bits .or .i64 ((g : Nat) : Int) ((2 ^ a : Nat) : Int) = ((g + 2 ^ a : Nat) : Int) := by decide
theorem lend_encR {bx : Nat → Option (List AV)} {k id : Nat} {s : List Choice} : lend bx (k + 1) (encR id s) = .sl true (s.map (Choice.enc true)) := by
  unfold encR
  split
  · rename_i h
    subst h
    rfl
  · simp -implicitDefEqProofs only [lend, AV.mapO, shuts_Choice]
theorem len_encR2 {bx : Nat → Option (List AV)} {id : Nat} {s : List Choice} : lend bx 4 (encR id s) = .sl true (s.map (Choice.enc true)) := lend_encR
set_option maxHeartbeats 2000000 in
theorem r_impl_built {fl : Bool} (table : List Bool) (n : Nat) (hn : n ≤ 6) (ht : table.length = 2 ^ n) (root : Int) :
    ∀ (m a : Nat) (ha : a + m = n) (k : Nat) (hk : 281474976710656 + 10 + m ≤ k) (g : Nat) (hg : g < 2 ^ a) (ns : List Choice) (hns : ns.length + 2 ^ m ≤ 1000),
    run E noExt k 94 [.ptr 0 0, .int .i64 (a : Nat), .int .i64 (g : Nat), .sl fl (table.map AV.bool)] [[.int .i64 (n : Nat), encR 0 ns, .int .i64 root]] =
      some (.int .i64 (bld table m a g ns).1, [[.int .i64 (n : Nat), encR 0 (bld table m a g ns).2, .int .i64 root]])
  | 0, a, ha, k, hk, g, hg, ns, hns => by
    obtain rfl : a = n := by omega
    have hgl : g < table.length := by rw [ht]; simpa using hg
    have hx : table[g]? = some (table.getD g false) := by rw [List.getD_eq_getElem?_getD, List.getElem?_eq_getElem hgl]; rfl
    have hlt : ((g : Nat) : Int) < ((table.length : Nat) : Int) := by omega
    obtain ⟨k, rfl⟩ : ∃ j, k = j + 1 := ⟨k - 1, by omega⟩
    rw [run_succ rfl rfl, body_eq (nt := 72) (fn := Go.Proofs.Tryz.f94) (by kernel_rfl) rfl rfl rfl rfl rfl rfl rfl rfl]
    simp -implicitDefEqProofs only [bld]
    generalize table.getD g false = v at hx
    cases v
    all_goals
      simp -implicitDefEqProofs only [QS, QN, QG, QO, ZRS, ↓ZDS, ZRG, ↓ZDG, ZRO, ↓ZDO, Go.Proofs.Tryz.f94, hx, hlt, rows_encR, boxes_encR, len_rowsN, dedup_rowsN, nodup_rowsN, all_rowsN, any_encR, mapO_encR, look_nil, finJ_1, finJ_2, finJ_3, finJ_4, finJ_int, finJ_bool, finJ_str, finJ_nils, finJ_agg, finJ_own, finJ_sl, finJ_tup, look_cons, reduceCtorEq, evCall_mutOwn, evCall_mutAgg, evGive, giveRows, ioBoxes, mutArgs, roArgs, handArg, mutSlots, isPtrB, pairs, pairss, back_nil, back_cons, backO, backE, setBoxes, importB, mode_mut, mode_give, mode_io, mode_ro, List.zip_cons_cons, List.zip_nil_left, List.zip_nil_right, ite_self, ite_true, ite_false, finish_give, finish_mut1, finish_io0, finish_io2, finish_io3, finish_ioc, finI, finC, finW_ptr, ifEv_bool, if_false, if_true, SO, SH, evAppend, rowOf, noref, isRef, isPtr, noPtr, isBad, AV.isUndef, SN, evCutRow, Int.reduceToNat, id_eq, Int.reduceBEq, Int.reduceLE, Int.reduceLT, SS, one_ne2, num_ne2, TIS, MDS, AV.cells, AV.isCell, Value.cells, Nat.reduceAdd, Nat.reduceEqDiff, Nat.reduceLT, Nat.reduceLeDiff, Nat.reduceMul, Nat.reduceSub, reduceIte]
  | m + 1, a, ha, k, hk, g, hg, ns, hns => by
    have hpm : 0 < 2 ^ m := Nat.pow_pos (by decide)
    have hps : 2 ^ (m + 1) = 2 * 2 ^ m := by rw [Nat.pow_succ]; omega
    have hpa : 2 ^ (a + 1) = 2 * 2 ^ a := by rw [Nat.pow_succ]; omega
    have hl1 := bld_len table m (a + 1) g ns
    have hl2 := bld_len table m (a + 1) (g + 2 ^ a) (bld table m (a + 1) g ns).2
    have c1 := r_impl_built (fl := fl) table n hn ht root m (a + 1) (by omega) (k - 1) (by omega) g (by omega) ns (by omega)
    have c2 := r_impl_built (fl := fl) table n hn ht root m (a + 1) (by omega) (k - 1) (by omega) (g + 2 ^ a) (by omega) (bld table m (a + 1) g ns).2 (by omega)
    have hsl : ∀ t, evBin2 E.P .shl t (.int .i64 1) (.int .i64 ((a : Nat) : Int)) = some (.int .i64 ((2 ^ a : Nat) : Int)) := fun t => by
      have h1 : (((a : Nat) : Int) < 0) = False := eq_false (by omega)
      simp -implicitDefEqProofs only [evBin2, evBin, evShift, h1, if_false, shl_small a (by omega)]
    have hor : ∀ t, evBin2 E.P .or t (.int .i64 ((g : Nat) : Int)) (.int .i64 ((2 ^ a : Nat) : Int)) = some (.int .i64 ((g + 2 ^ a : Nat) : Int)) := fun t => by
      simp -implicitDefEqProofs only [evBin2, evBin, evInt, or_small a (by omega) g hg, if_true]
    have c4 := fun (s : List Choice) hs x => r_slices_Index_Choice (fl := true) (gl := true) (k - 1) (by omega) s hs x
    obtain ⟨k, rfl⟩ : ∃ j, k = j + 1 := ⟨k - 1, by omega⟩
    rw [run_succ rfl rfl, body_eq (nt := 72) (fn := Go.Proofs.Tryz.f94) (by kernel_rfl) rfl rfl rfl rfl rfl rfl rfl rfl]
    simp -implicitDefEqProofs only [Nat.add_sub_cancel, enc_Choice] at c1 c2 c4
    simp -implicitDefEqProofs only [bld]
    generalize bld table m (a + 1) g ns = p1 at *
    obtain ⟨lo, ns1⟩ := p1
    simp only at *
    generalize bld table m (a + 1) (g + 2 ^ a) ns1 = p2 at *
    obtain ⟨hi, ns2⟩ := p2
    simp only at *
    have hne : ((((a : Nat) : Int)) == ((n : Nat) : Int)) = false := by simp; omega
    have hw1 : IntKind.i64.wrap ((a : Int) + 1) = ((a + 1 : Nat) : Int) := by rw [IntWalk.i64_in _ (by omega)]; omega
    generalize 2 ^ a = pa at *
    have hs : ns2.length ≤ 140737488355328 := by omega
    have c5 := c4 ns2 hs ⟨(a : Nat), lo, hi⟩
    clear c4
    have hm1 : (ns2.length + 1) * 24 ≤ 140737488355328 := by omega
    have hm2 : ns2.length + 1 ≤ 9223372036854775807 := by omega
    have hpl : plains [(AV.agg [.int .i64 (a : Nat), .int .i64 lo, .int .i64 hi])] = true := rfl
    have hw9 : IntKind.i64.wrap (((ns2.length + 1 : Nat) : Int) - 1) = ((ns2.length : Nat) : Int) := by rw [IntWalk.i64_in _ (by omega)]; omega
    have hw10 : IntKind.i64.wrap (((1 : Nat) : Int) - 1) = 0 := by decide
    have g1 := fun nid dst st => give_build (b := 0) (nid := nid) (dst := dst) (st := st) (id := 0) rfl rfl rfl rfl rfl rfl rfl rfl rfl (hΦ := c1)
    have g2 := fun id nid dst st => give_build (b := 0) (nid := nid) (dst := dst) (st := st) (id := id) rfl rfl rfl rfl rfl rfl rfl rfl rfl (hΦ := c2)
    have g2 := g2 144
    unfold bldJoin
    simp only at c5
    generalize indexBy (fun c => decide ((⟨(a : Nat), lo, hi⟩ : Choice) = c)) 0 ns2 = ix at *
    cases hbb : (lo == hi) with
    | true =>
      simp -implicitDefEqProofs only [QS, QN, QG, QO, ZRS, ↓ZDS, ZRG, ↓ZDG, ZRO, ↓ZDO, Go.Proofs.Tryz.f94, hbb, hne, hw1, hsl, hor, g1, g2, back_rowsN, rows_encR, boxes_encR, len_rowsN, dedup_rowsN, nodup_rowsN, all_rowsN, any_encR, mapO_encR, look_nil, finJ_1, finJ_2, finJ_3, finJ_4, finJ_int, finJ_bool, finJ_str, finJ_nils, finJ_agg, finJ_own, finJ_sl, finJ_tup, look_cons, reduceCtorEq, evCall_mutOwn, evCall_mutAgg, evGive, giveRows, ioBoxes, mutArgs, roArgs, handArg, mutSlots, isPtrB, pairs, pairss, back_nil, back_cons, backO, backE, setBoxes, importB, mode_mut, mode_give, mode_io, mode_ro, List.zip_cons_cons, List.zip_nil_left, List.zip_nil_right, ite_self, ite_true, ite_false, finish_give, finish_mut1, finish_io0, finish_io2, finish_io3, finish_ioc, finI, finC, finW_ptr, ifEv_bool, if_false, if_true, SO, SH, evAppend, rowOf, noref, isRef, isPtr, noPtr, isBad, AV.isUndef, SN, evCutRow, Int.reduceToNat, id_eq, Int.reduceBEq, Int.reduceLE, Int.reduceLT, SS, one_ne2, num_ne2, TIS, MDS, AV.cells, AV.isCell, Value.cells, Nat.reduceAdd, Nat.reduceEqDiff, Nat.reduceLT, Nat.reduceLeDiff, Nat.reduceMul, Nat.reduceSub, reduceIte]
    | false =>
      rcases Classical.em (0 ≤ ix) with h | h
      · simp -implicitDefEqProofs only [QS, QN, QG, QO, ZRS, ↓ZDS, ZRG, ↓ZDG, ZRO, ↓ZDO, Go.Proofs.Tryz.f94, hbb, h, c5, hne, hw1, hsl, hor, g1, g2, len_encR2, plan_94_10, back_rowsN, rows_encR, boxes_encR, len_rowsN, dedup_rowsN, nodup_rowsN, all_rowsN, any_encR, mapO_encR, look_nil, finJ_1, finJ_2, finJ_3, finJ_4, finJ_int, finJ_bool, finJ_str, finJ_nils, finJ_agg, finJ_own, finJ_sl, finJ_tup, look_cons, reduceCtorEq, evCall_mutOwn, evCall_mutAgg, evGive, giveRows, ioBoxes, mutArgs, roArgs, handArg, mutSlots, isPtrB, pairs, pairss, back_nil, back_cons, backO, backE, setBoxes, importB, mode_mut, mode_give, mode_io, mode_ro, List.zip_cons_cons, List.zip_nil_left, List.zip_nil_right, ite_self, ite_true, ite_false, finish_give, finish_mut1, finish_io0, finish_io2, finish_io3, finish_ioc, finI, finC, finW_ptr, ifEv_bool, if_false, if_true, SO, SH, evAppend, rowOf, noref, isRef, isPtr, noPtr, isBad, AV.isUndef, SN, evCutRow, Int.reduceToNat, id_eq, Int.reduceBEq, Int.reduceLE, Int.reduceLT, SS, one_ne2, num_ne2, TIS, MDS, AV.cells, AV.isCell, Value.cells, Nat.reduceAdd, Nat.reduceEqDiff, Nat.reduceLT, Nat.reduceLeDiff, Nat.reduceMul, Nat.reduceSub, reduceIte]
      · rcases Classical.em (ns2 = []) with h2 | h2
        · subst h2
          simp -implicitDefEqProofs only [List.map_nil] at c5
          simp -implicitDefEqProofs only [QS, QN, QG, QO, ZRS, ↓ZDS, ZRG, ↓ZDG, ZRO, ↓ZDO, Go.Proofs.Tryz.f94, hbb, h, c5, hne, hw1, hsl, hor, g1, g2, encR_nil, rowsL_nil, encR_one, enc_Choice, hw10, hpl, len_encR2, plan_94_10, plan_94_13, back_rowsN, rows_encR, boxes_encR, len_rowsN, dedup_rowsN, nodup_rowsN, all_rowsN, any_encR, mapO_encR, look_nil, finJ_1, finJ_2, finJ_3, finJ_4, finJ_int, finJ_bool, finJ_str, finJ_nils, finJ_agg, finJ_own, finJ_sl, finJ_tup, look_cons, reduceCtorEq, evCall_mutOwn, evCall_mutAgg, evGive, giveRows, ioBoxes, mutArgs, roArgs, handArg, mutSlots, isPtrB, pairs, pairss, back_nil, back_cons, backO, backE, setBoxes, importB, mode_mut, mode_give, mode_io, mode_ro, List.zip_cons_cons, List.zip_nil_left, List.zip_nil_right, ite_self, ite_true, ite_false, finish_give, finish_mut1, finish_io0, finish_io2, finish_io3, finish_ioc, finI, finC, finW_ptr, ifEv_bool, if_false, if_true, SO, SH, evAppend, rowOf, noref, isRef, isPtr, noPtr, isBad, AV.isUndef, SN, evCutRow, Int.reduceToNat, id_eq, Int.reduceBEq, Int.reduceLE, Int.reduceLT, SS, one_ne2, num_ne2, TIS, MDS, AV.cells, AV.isCell, Value.cells, Nat.reduceAdd, Nat.reduceEqDiff, Nat.reduceLT, Nat.reduceLeDiff, Nat.reduceMul, Nat.reduceSub, reduceIte]
        · have e2 := fun id => encR_ne (id := id) h2
          have e3 := encR_ne (id := 0) (append_ne (s := ns2) (c := ⟨(a : Nat), lo, hi⟩))
          rw [List.map_append] at e3
          have hl : (ns2.map (Choice.enc true) ++ [AV.agg [.int .i64 (a : Nat), .int .i64 lo, .int .i64 hi]]).length = ns2.length + 1 := by simp
          simp -implicitDefEqProofs only [QS, QN, QG, QO, ZRS, ↓ZDS, ZRG, ↓ZDG, ZRO, ↓ZDO, Go.Proofs.Tryz.f94, hbb, h, c5, hne, hw1, hsl, hor, g1, g2, e2, e3, hl, enc_Choice, hs, hm1, hm2, hw9, hpl, shuts_Choice, plan_94_10, plan_94_13, back_rowsN, rows_encR, boxes_encR, len_rowsN, dedup_rowsN, nodup_rowsN, all_rowsN, any_encR, mapO_encR, look_nil, finJ_1, finJ_2, finJ_3, finJ_4, finJ_int, finJ_bool, finJ_str, finJ_nils, finJ_agg, finJ_own, finJ_sl, finJ_tup, look_cons, reduceCtorEq, evCall_mutOwn, evCall_mutAgg, evGive, giveRows, ioBoxes, mutArgs, roArgs, handArg, mutSlots, isPtrB, pairs, pairss, back_nil, back_cons, backO, backE, setBoxes, importB, mode_mut, mode_give, mode_io, mode_ro, List.zip_cons_cons, List.zip_nil_left, List.zip_nil_right, ite_self, ite_true, ite_false, finish_give, finish_mut1, finish_io0, finish_io2, finish_io3, finish_ioc, finI, finC, finW_ptr, ifEv_bool, if_false, if_true, SO, SH, evAppend, rowOf, noref, isRef, isPtr, noPtr, isBad, AV.isUndef, SN, evCutRow, Int.reduceToNat, id_eq, Int.reduceBEq, Int.reduceLE, Int.reduceLT, SS, one_ne2, num_ne2, TIS, MDS, AV.cells, AV.isCell, Value.cells, Nat.reduceAdd, Nat.reduceEqDiff, Nat.reduceLT, Nat.reduceLeDiff, Nat.reduceMul, Nat.reduceSub, reduceIte]
end Go.Proofs.YtigfcbcnfppmcaaGreat.Flat
set_option linter.unusedVariables false
set_option linter.unusedSimpArgs false
set_option maxRecDepth 10000
namespace Go.Proofs.YtigfcbcnfppmcaaGreat.Flat
end Go.Proofs.YtigfcbcnfppmcaaGreat.Flat
set_option linter.unusedVariables false
set_option linter.unusedSimpArgs false
set_option maxRecDepth 10000
namespace Go.Proofs.YtigfcbcnfppmcaaGreat.Flat
noncomputable def fromT (atoms : Int) (table : List Bool) : Diagram := ⟨atoms, (bld table atoms.toNat 0 0 []).2, (bld table atoms.toNat 0 0 []).1⟩
noncomputable def fromOk (atoms : Int) (table : List Bool) : Bool := inR atoms 0 6 && decide (table.length = 2 ^ atoms.toNat)
noncomputable def fromTable (atoms : Int) (table : List Bool) : Diagram := if fromOk atoms table = true then fromT atoms table else ⟨0, [], 0⟩
noncomputable def Diagram.encN (d : Diagram) : AV := .agg [.int .i64 d.atoms, encR 0 d.nodes, .int .i64 d.root]
theorem r_impl_FromTable {fl : Bool} (k : Nat) (hk : 281474976710656 + 30 ≤ k) (atoms : Int) (table : List Bool) (hl : table.length ≤ 1099511627776) :
    run E noExt k 62 [.int .i64 atoms, .sl fl (table.map AV.bool)] [] = some (.tup [(fromTable atoms table).encN, .bool (fromOk atoms table)], []) := by
  have c1 := r_impl_InRange (k - 1) (by omega) atoms 0 6
  have c3 := fun n hn ht => r_impl_built (fl := fl) table n hn ht 0 n 0 (by omega) (k - 1) (by omega) 0 (by simp) [] (by have : 2 ^ n ≤ 2 ^ 6 := Nat.pow_le_pow_right (by decide) hn; simp -implicitDefEqProofs only [List.length_nil]; omega)
  unfold fromTable fromOk
  obtain ⟨k, rfl⟩ : ∃ j, k = j + 1 := ⟨k - 1, by omega⟩
  rw [run_succ rfl rfl, body_eq (nt := 24) (fn := Go.Proofs.Tryz.f62) (by kernel_rfl) rfl rfl rfl rfl rfl rfl rfl rfl]
  simp -implicitDefEqProofs only [Nat.add_sub_cancel] at c1 c3
  cases hd : inR atoms 0 6 with
  | false =>
    rw [hd] at c1
    simp -implicitDefEqProofs only [QS, QN, QG, QO, ZRS, ↓ZDS, ZRG, ↓ZDG, ZRO, ↓ZDO, Go.Proofs.Tryz.f62, c1, Diagram.encN, encR_nil, ifEv_bool, gate_bool, if_false, SO, SH, evAppend, rowOf, noref, isRef, isPtr, noPtr, isBad, AV.isUndef, SN, evCutRow, Int.reduceToNat, id_eq, Int.reduceBEq, Int.reduceLE, Int.reduceLT, SS, one_ne2, num_ne2, TIS, MDS, AV.cells, AV.isCell, Value.cells, Nat.reduceAdd, Nat.reduceEqDiff, Nat.reduceLT, Nat.reduceLeDiff, Nat.reduceMul, Nat.reduceSub, reduceIte]
  | true =>
    rw [hd] at c1
    have hr := hd
    simp -implicitDefEqProofs only [inR, Bool.and_eq_true, decide_eq_true_eq] at hr
    obtain ⟨n, hn⟩ : ∃ n : Nat, atoms = (n : Int) := ⟨atoms.toNat, by omega⟩
    subst hn
    have hn6 : n ≤ 6 := by omega
    have hsl : ∀ t, evBin2 E.P .shl t (.int .i64 1) (.int .i64 ((n : Nat) : Int)) = some (.int .i64 ((2 ^ n : Nat) : Int)) := fun t => by
      have h1 : (((n : Nat) : Int) < 0) = False := eq_false (by omega)
      simp -implicitDefEqProofs only [evBin2, evBin, evShift, h1, if_false, shl_small n (by omega)]
    have c5 := c3 n hn6
    clear c3
    simp -implicitDefEqProofs only [Int.toNat_natCast]
    rcases Classical.em (table.length = 2 ^ n) with h | h
    · have hd2 : (((table.length : Nat) : Int) == ((2 ^ n : Nat) : Int)) = true := by simp [h]
      have c6 := c5 h
      have hz0 : ((0 : Nat) : Int) = 0 := rfl
      simp -implicitDefEqProofs only [hz0] at c6
      have g1 := fun nid dst st => give_build (b := 128) (nid := nid) (dst := dst) (st := st) (id := 0) rfl rfl rfl rfl rfl rfl rfl rfl rfl (hΦ := c6)
      have hdt : decide (table.length = 2 ^ n) = true := decide_eq_true h
      unfold fromT
      simp -implicitDefEqProofs only [Int.toNat_natCast]
      generalize bld table n 0 0 [] = p at *
      simp -implicitDefEqProofs only [hdt, Bool.true_and, if_true]
      simp -implicitDefEqProofs only [QS, QN, QG, QO, ZRS, ↓ZDS, ZRG, ↓ZDG, ZRO, ↓ZDO, Go.Proofs.Tryz.f62, c1, hsl, hd2, bne, encR_nil, g1, Diagram.encN, ifEv_bool, gate_bool, if_false, if_true, back_rowsN, rows_encR, boxes_encR, ↓isCell_encR, len_rowsN, dedup_rowsN, nodup_rowsN, all_rowsN, any_encR, mapO_encR, ref_encR, scal_encR, small_rowsN, lend_encR4, imp_encR, rowsN_nil, look_nil, finJ_1, finJ_2, finJ_3, finJ_4, finJ_int, finJ_bool, finJ_str, finJ_nils, finJ_agg, finJ_own, finJ_sl, finJ_tup, look_cons, reduceCtorEq, evCall_mutOwn, evCall_mutAgg, evGive, giveRows, ioBoxes, mutArgs, roArgs, handArg, mutSlots, isPtrB, pairs, pairss, back_nil, back_cons, backO, backE, setBoxes, importB, mode_mut, mode_give, mode_io, mode_ro, List.zip_cons_cons, List.zip_nil_left, List.zip_nil_right, ite_self, ite_true, ite_false, finish_give, finish_mut1, finish_io0, finish_io2, finish_io3, finish_ioc, finI, finC, finW_ptr, SO, SH, evAppend, rowOf, noref, isRef, isPtr, noPtr, isBad, AV.isUndef, SN, evCutRow, Int.reduceToNat, id_eq, Int.reduceBEq, Int.reduceLE, Int.reduceLT, SS, one_ne2, num_ne2, TIS, MDS, AV.cells, AV.isCell, Value.cells, Nat.reduceAdd, Nat.reduceEqDiff, Nat.reduceLT, Nat.reduceLeDiff, Nat.reduceMul, Nat.reduceSub, reduceIte]
    · have hd2 : (((table.length : Nat) : Int) == ((2 ^ n : Nat) : Int)) = false := by rw [beq_eq_false_iff_ne]; intro e; exact h (by omega)
      have hdt : decide (table.length = 2 ^ n) = false := decide_eq_false h
      simp -implicitDefEqProofs only [hdt, Bool.true_and]
      simp -implicitDefEqProofs only [QS, QN, QG, QO, ZRS, ↓ZDS, ZRG, ↓ZDG, ZRO, ↓ZDO, Go.Proofs.Tryz.f62, c1, hsl, hd2, bne, Diagram.encN, encR_nil, ifEv_bool, gate_bool, if_false, if_true, SO, SH, evAppend, rowOf, noref, isRef, isPtr, noPtr, isBad, AV.isUndef, SN, evCutRow, Int.reduceToNat, id_eq, Int.reduceBEq, Int.reduceLE, Int.reduceLT, SS, one_ne2, num_ne2, TIS, MDS, AV.cells, AV.isCell, Value.cells, Nat.reduceAdd, Nat.reduceEqDiff, Nat.reduceLT, Nat.reduceLeDiff, Nat.reduceMul, Nat.reduceSub, reduceIte]
theorem fromTable_len (atoms : Int) (table : List Bool) : (fromTable atoms table).nodes.length ≤ 63 := by
  unfold fromTable
  split
  · rename_i h
    unfold fromOk at h
    rw [Bool.and_eq_true] at h
    have hr := h.1
    simp -implicitDefEqProofs only [inR, Bool.and_eq_true, decide_eq_true_eq] at hr
    have h1 := bld_len table atoms.toNat 0 0 []
    have h2 : 2 ^ atoms.toNat ≤ 2 ^ 6 := Nat.pow_le_pow_right (by decide) (by omega)
    simp -implicitDefEqProofs only [List.length_nil] at h1
    show (bld table atoms.toNat 0 0 []).2.length ≤ 63
    omega
  · simp
end Go.Proofs.YtigfcbcnfppmcaaGreat.Flat
