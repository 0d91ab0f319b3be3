/-
A policy by the values of its atoms.
-/
import Derived.Test.YtigfcbcnfppmcaaGreatEqK
set_option linter.unusedVariables false
set_option linter.unusedSimpArgs false
set_option maxRecDepth 10000
namespace Go.Proofs.YtigfcbcnfppmcaaGreat.Flat
def polStep (f : Rule → Bool) (_ : Nat) (r : Rule) (yes : Bool) : Sum Bool Bool := if f r = true then (if (r.effect == 0) = true then .inl false else .inr (yes || (r.effect == 1))) else .inr yes
def polBy (f : Rule → Bool) (s : List Rule) : Bool := loopL (polStep f) id 0 s false
def holdStep (f : Rule → Bool) (i : Nat) (r : Rule) (b : List Int) : Sum (List Int) (List Int) := .inr (if f r = true then b ++ [(i : Int)] else b)
def holdL (f : Rule → Bool) : Nat → List Rule → List Int
  | _, [] => []
  | i, r :: s => if f r = true then (i : Int) :: holdL f (i + 1) s else holdL f (i + 1) s
theorem holdLoop (f : Rule → Bool) : ∀ (s : List Rule) (i : Nat) (b : List Int), loopL (holdStep f) id i s b = b ++ holdL f i s
  | [], i, b => by simp [loopL, holdL]
  | r :: s, i, b => by
    simp -implicitDefEqProofs only [loopL, holdStep, holdL]
    rw [holdLoop f s]
    cases f r <;> simp
theorem holdL_length (f : Rule → Bool) : ∀ (s : List Rule) (i : Nat), (holdL f i s).length ≤ s.length
  | [], i => by simp [holdL]
  | r :: s, i => by
    have := holdL_length f s (i + 1)
    simp -implicitDefEqProofs only [holdL]
    split <;> simp <;> omega
theorem holdL_mem (f : Rule → Bool) : ∀ (s : List Rule) (i : Nat) (z : Int), z ∈ holdL f i s → ∃ j, z = ((i + j : Nat) : Int) ∧ j < s.length
  | [], i, z, h => by simp [holdL] at h
  | r :: s, i, z, h => by
    simp -implicitDefEqProofs only [holdL] at h
    have go : z ∈ holdL f (i + 1) s → ∃ j, z = ((i + j : Nat) : Int) ∧ j < (r :: s).length := fun h => by
      obtain ⟨j, h1, h2⟩ := holdL_mem f s (i + 1) z h
      exact ⟨j + 1, by omega, by simp; omega⟩
    split at h
    · rcases List.mem_cons.1 h with rfl | h
      · exact ⟨0, by simp, by simp⟩
      · exact go h
    · exact go h
def decStep (rules : List Rule) (_ : Nat) (z : Int) (out : Int) : Sum Int Int :=
  if ((rules.getD z.toNat default).effect == 0) = true then .inl 0 else if ((rules.getD z.toNat default).effect == 1) = true then .inr 1 else .inr out
def decided (rules : List Rule) (hold : List Int) : Int := loopL (decStep rules) id 0 hold 0
theorem decLoop (f : Rule → Bool) (rules : List Rule) : ∀ (s pre : List Rule) (i : Nat) (out : Int) (yes : Bool) (q : Nat), rules = pre ++ s → (out == 1) = yes →
    (loopL (decStep rules) id i (holdL f pre.length s) out == 1) = loopL (polStep f) id q s yes
  | [], pre, i, out, yes, q, hr, hy => by simpa [loopL, holdL] using hy
  | r :: s, pre, i, out, yes, q, hr, hy => by
    have hg : rules.getD ((pre.length : Nat) : Int).toNat default = r := by rw [hr]; simp
    have ih := fun i out yes q h => decLoop f rules s (pre ++ [r]) i out yes q (by rw [hr]; simp) h
    simp -implicitDefEqProofs only [List.length_append, List.length_cons, List.length_nil] at ih
    simp -implicitDefEqProofs only [holdL, loopL, polStep]
    cases hf : f r
    · simp -implicitDefEqProofs only [Bool.false_eq_true, if_false]
      exact ih _ _ _ _ hy
    · simp -implicitDefEqProofs only [if_true, loopL, decStep, hg]
      cases h0 : r.effect == 0
      · simp -implicitDefEqProofs only [Bool.false_eq_true, if_false]
        cases h1 : r.effect == 1
        · simp -implicitDefEqProofs only [Bool.false_eq_true, if_false, Bool.or_false]
          exact ih _ _ _ _ hy
        · simp -implicitDefEqProofs only [if_true, Bool.or_true]
          exact ih _ _ _ _ (by simp)
      · simp
theorem decided_pol (f : Rule → Bool) (rules : List Rule) : (decided rules (holdL f 0 rules) == 1) = polBy f rules := decLoop f rules rules [] 0 0 false 0 rfl (by simp)
theorem r_impl_decided {fl f2 : Bool} (k : Nat) (hk : 281474976710656 + 1 ≤ k) (p : Policy) (h : List Int) (hp : p.rules.length ≤ 140737488355328) (hs : h.length ≤ 140737488355328) (hm : ∀ z ∈ h, ∃ j, z = ((j : Nat) : Int) ∧ j < p.rules.length) :
    run E noExt k 51 [p.enc fl, .sl f2 (h.map (AV.int .i64))] [] = some (.int .i64 (decided p.rules h), []) := by
  obtain ⟨k, rfl⟩ : ∃ j, k = j + 1 := ⟨k - 1, by omega⟩
  rw [run_succ rfl rfl, body_eq (nt := 26) (fn := Go.Proofs.Tryz.f51) (by kernel_rfl) rfl rfl rfl rfl rfl rfl rfl rfl]
  simp -implicitDefEqProofs only [QS, QN, Go.Proofs.Tryz.f51, enc_Policy, SN, evCutRow, Int.reduceToNat, id_eq, Int.reduceBEq, Int.reduceLE, Int.reduceLT, SS, one_ne2, num_ne2, TIS, MDS, wanted, numbered, plainC, plainS, evEq, eqK, evBox, evAlloc, evStore, evLoad, evFieldAddr, behind, takeVal, AV.cells, AV.isCell, ofCells, ofCell, Value.cells, Nat.reduceAdd, Nat.reduceEqDiff, Nat.reduceLT, Nat.reduceLeDiff, Nat.reduceMul, Nat.reduceSub, reduceIte]
  rw [ev_loop]
  refine Eq.trans (loop_list (Q := fun g x => thenEnd E.P [] _ 0 (thenEv E _ _ _ _ _ (outOf 0 x)) = some (.int .i64 g, [])) (h) (decStep p.rules) (id)
    (fun i b => { sl := [(2, .ptr 0 0), (5, .int .i64 b), (8, .sl f2 (h.map (AV.int .i64))), (9, .int .i64 (h.length : Nat)), (10, .int .i64 (i : Nat))], bx := [(0, [.int .i64 p.version, .sl fl (p.rules.map (Rule.enc fl))])], nx := 1, nt := 26 }) (fun _ _ => True) (0) ?_ ?_ (by first | omega | (simp; omega)) (trivial) ?_) ?_
  · intro b _
    simp -implicitDefEqProofs only [QS, QN, QG, leaf_some, isNormal, ifEv_bool, gate_bool, gateP_bool, gateQ_bool, pick_bool, SN, evCutRow, Int.reduceToNat, id_eq, Int.reduceBEq, Int.reduceLE, Int.reduceLT, firstRegion, gc, keptBoxes, keptRows, dedup, nodupB, idx, renameB, AV.boxes, AV.boxess, AV.rows, AV.rowss, AV.mapO, AV.mapOs, SS, one_ne2, num_ne2, TIS, MDS, wanted, numbered, plainC, plainS, evEq, eqK, evBox, evAlloc, evStore, evLoad, evFieldAddr, behind, takeVal, AV.cells, AV.isCell, ofCells, ofCell, Value.cells, Nat.reduceAdd, Nat.reduceEqDiff, Nat.reduceLT, Nat.reduceLeDiff, Nat.reduceMul, Nat.reduceSub, reduceIte]
    repeat' (split <;> (rename_i h; (try simp -implicitDefEqProofs only [Bool.not_eq_true', Bool.not_eq_false', decide_eq_true_eq, decide_eq_false_iff_not] at h); (try simp -implicitDefEqProofs only [QS, QN, QG, *, leaf_some, isNormal, ifEv_bool, gate_bool, gateP_bool, gateQ_bool, pick_bool, SN, evCutRow, Int.reduceToNat, id_eq, Int.reduceBEq, Int.reduceLE, Int.reduceLT, firstRegion, gc, keptBoxes, keptRows, dedup, nodupB, idx, renameB, AV.boxes, AV.boxess, AV.rows, AV.rowss, AV.mapO, AV.mapOs, SS, one_ne2, num_ne2, TIS, MDS, wanted, numbered, plainC, plainS, evEq, eqK, evBox, evAlloc, evStore, evLoad, evFieldAddr, behind, takeVal, AV.cells, AV.isCell, ofCells, ofCell, Value.cells, Nat.reduceAdd, Nat.reduceEqDiff, Nat.reduceLT, Nat.reduceLeDiff, Nat.reduceMul, Nat.reduceSub, reduceIte])))
  · intro pre c r b hs' _
    have hx := (at_row hs' hs).1; have hc := (at_row hs' hs).2.1; have hlt := (at_row hs' hs).2.2.1; have hw1 := (at_row hs' hs).2.2.2.1; have hl9 := (at_row hs' hs).2.2.2.2
    clear hs'
    obtain ⟨j, rfl, hj⟩ := hm c hc
    have hr : p.rules[j]? = some (p.rules.getD j default) := by
      rw [List.getD_eq_getElem?_getD, List.getElem?_eq_getElem hj]; rfl
    simp -implicitDefEqProofs only [QS, QN, QG, enc_Rule, hx, hlt, hw1, hr, decStep, keep_51_3, leaf_some, isNormal, ifEv_bool, gate_bool, gateP_bool, gateQ_bool, pick_bool, SN, evCutRow, Int.reduceToNat, id_eq, Int.reduceBEq, Int.reduceLE, Int.reduceLT, firstRegion, gc, keptBoxes, keptRows, dedup, nodupB, idx, renameB, AV.boxes, AV.boxess, AV.rows, AV.rowss, AV.mapO, AV.mapOs, SS, one_ne2, num_ne2, TIS, MDS, wanted, numbered, plainC, plainS, evEq, eqK, evBox, evAlloc, evStore, evLoad, evFieldAddr, behind, takeVal, AV.cells, AV.isCell, ofCells, ofCell, Value.cells, Nat.reduceAdd, Nat.reduceEqDiff, Nat.reduceLT, Nat.reduceLeDiff, Nat.reduceMul, Nat.reduceSub, reduceIte]
    repeat' (split <;> (rename_i h; (try simp -implicitDefEqProofs only [Bool.not_eq_true', Bool.not_eq_false', decide_eq_true_eq, decide_eq_false_iff_not] at h); (try simp -implicitDefEqProofs only [QS, QN, QG, *, enc_Rule, hx, hlt, hw1, hr, decStep, keep_51_3, leaf_some, isNormal, ifEv_bool, gate_bool, gateP_bool, gateQ_bool, pick_bool, SN, evCutRow, Int.reduceToNat, id_eq, Int.reduceBEq, Int.reduceLE, Int.reduceLT, firstRegion, gc, keptBoxes, keptRows, dedup, nodupB, idx, renameB, AV.boxes, AV.boxess, AV.rows, AV.rowss, AV.mapO, AV.mapOs, SS, one_ne2, num_ne2, TIS, MDS, wanted, numbered, plainC, plainS, evEq, eqK, evBox, evAlloc, evStore, evLoad, evFieldAddr, behind, takeVal, AV.cells, AV.isCell, ofCells, ofCell, Value.cells, Nat.reduceAdd, Nat.reduceEqDiff, Nat.reduceLT, Nat.reduceLeDiff, Nat.reduceMul, Nat.reduceSub, reduceIte])))
  · simp -implicitDefEqProofs only [firstRegion]; rw [keep_51_3]; simp -implicitDefEqProofs only [QS, QN, QG, SN, evCutRow, Int.reduceToNat, id_eq, Int.reduceBEq, Int.reduceLE, Int.reduceLT, firstRegion, gc, keptBoxes, keptRows, dedup, nodupB, idx, renameB, AV.boxes, AV.boxess, AV.rows, AV.rowss, AV.mapO, AV.mapOs, SS, one_ne2, num_ne2, TIS, MDS, wanted, numbered, plainC, plainS, evEq, eqK, evBox, evAlloc, evStore, evLoad, evFieldAddr, behind, takeVal, AV.cells, AV.isCell, ofCells, ofCell, Value.cells, Nat.reduceAdd, Nat.reduceEqDiff, Nat.reduceLT, Nat.reduceLeDiff, Nat.reduceMul, Nat.reduceSub, reduceIte]; first | done | rfl
  · rfl
end Go.Proofs.YtigfcbcnfppmcaaGreat.Flat
