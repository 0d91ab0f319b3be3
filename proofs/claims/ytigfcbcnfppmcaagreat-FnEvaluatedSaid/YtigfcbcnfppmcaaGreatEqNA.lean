/-
Facts put into stores: the reference.
-/
import Derived.Test.YtigfcbcnfppmcaaGreatEqYM
import Derived.Test.YtigfcbcnfppmcaaGreatEqDR
set_option linter.unusedVariables false
set_option linter.unusedSimpArgs false
set_option maxRecDepth 10000
namespace Go.Proofs.YtigfcbcnfppmcaaGreat.Flat
section
variable {P : Program} {st : St}
theorem resultsOf_two {r s : ResultVar} {rs : List ResultVar} {vs : List AV} (h : resultsOf P st (r :: s :: rs) = some vs) : ∃ v u us, vs = v :: u :: us := by
  simp -implicitDefEqProofs only [resultsOf] at h
  obtain ⟨v, _, h⟩ := Option.bind_eq_some_iff.1 h
  obtain ⟨ws, h1, rfl⟩ := Option.map_eq_some_iff.1 h
  obtain ⟨u, _, h1⟩ := Option.bind_eq_some_iff.1 h1
  obtain ⟨us, _, rfl⟩ := Option.map_eq_some_iff.1 h1
  exact ⟨v, u, us, rfl⟩
/-- Several results, variables among them. -/
theorem finish_many0 {r s : ResultVar} {rs : List ResultVar} : finish P [] (r :: s :: rs) 0 st = (resultsOf P st (r :: s :: rs)).bind fun vs => finV (.tup vs) := by
  cases h : resultsOf P st (r :: s :: rs) with
  | none => unfold finish; simp -implicitDefEqProofs only [h]; rfl
  | some vs =>
    obtain ⟨v, u, us, rfl⟩ := resultsOf_two h
    simp -implicitDefEqProofs only [Option.bind_some]
    have := finW_eq (st := st) (v := .tup (v :: u :: us))
    unfold finish
    simp -implicitDefEqProofs only [h, Option.bind_some]
    exact this
theorem finish_many1 {m : Mode} {md : List Mode} {r s : ResultVar} {rs : List ResultVar} (hm : mutSlots 0 (m :: md) = []) : finish P (m :: md) (r :: s :: rs) 1 st = (resultsOf P st (r :: s :: rs)).bind fun vs => finI st (.tup vs) := by
  cases h : resultsOf P st (r :: s :: rs) with
  | none => unfold finish; simp -implicitDefEqProofs only [h]; rfl
  | some vs =>
    obtain ⟨v, u, us, rfl⟩ := resultsOf_two h
    simp -implicitDefEqProofs only [Option.bind_some]
    rw [← finI_eq (fun _ _ => by simp)]
    unfold finish
    simp -implicitDefEqProofs only [h, hm, Option.bind_some]
    rfl
theorem finish_manyI {r s : ResultVar} {rs : List ResultVar} : finish P [.io] (r :: s :: rs) 1 st = (resultsOf P st (r :: s :: rs)).bind fun vs => finI st (.tup vs) := finish_many1 rfl
end
def factBefore (a b : Fact) : Bool :=
  if (!(a.kind == b.kind)) = true then decide (a.kind < b.kind) else if (!(a.subject == b.subject)) = true then decide (a.subject < b.subject) else if (!(a.value == b.value)) = true then decide (a.value < b.value) else decide (a.issuer < b.issuer)
theorem r_spec_FactBefore (k : Nat) (hk : 281474976710656 + 1 ≤ k) (a b : Fact) : run E noExt k 104 [a.enc true, b.enc true] [] = some (.bool (factBefore a b), []) := by
  obtain ⟨k, rfl⟩ : ∃ j, k = j + 1 := ⟨k - 1, by omega⟩
  rw [run_succ rfl rfl, body_eq (nt := 40) (fn := Go.Proofs.Tryz.f104) (by kernel_rfl) rfl rfl rfl rfl rfl rfl rfl rfl]
  unfold factBefore
  cases h1 : a.kind == b.kind <;> cases h2 : a.subject == b.subject <;> cases h3 : a.value == b.value
  all_goals
    simp -implicitDefEqProofs only [QS, QN, ZRS, ↓ZDS, enc_Fact, h1, h2, h3, Go.Proofs.Tryz.f104, bne, SN, evCutRow, Int.reduceToNat, id_eq, Int.reduceBEq, Int.reduceLE, Int.reduceLT, SS, one_ne2, num_ne2, TIS, MDS, AV.cells, AV.isCell, Value.cells, Nat.reduceAdd, Nat.reduceEqDiff, Nat.reduceLT, Nat.reduceLeDiff, Nat.reduceMul, Nat.reduceSub, reduceIte]
def sameClaim (a b : Fact) : Bool := ((a.kind == b.kind) && (a.subject == b.subject)) && (a.value == b.value) && (a.issuer == b.issuer)
theorem r_spec_SameClaim (k : Nat) (hk : 281474976710656 + 1 ≤ k) (a b : Fact) : run E noExt k 105 [a.enc true, b.enc true] [] = some (.bool (sameClaim a b), []) := by
  obtain ⟨k, rfl⟩ : ∃ j, k = j + 1 := ⟨k - 1, by omega⟩
  rw [run_succ rfl rfl, body_eq (nt := 31) (fn := Go.Proofs.Tryz.f105) (by kernel_rfl) rfl rfl rfl rfl rfl rfl rfl rfl]
  unfold sameClaim
  cases h1 : a.kind == b.kind <;> cases h2 : a.subject == b.subject <;> cases h3 : a.value == b.value
  all_goals
    simp -implicitDefEqProofs only [QS, QN, ZRS, ↓ZDS, enc_Fact, h1, h2, h3, Go.Proofs.Tryz.f105, bne, SN, evCutRow, Int.reduceToNat, id_eq, Int.reduceBEq, Int.reduceLE, Int.reduceLT, SS, one_ne2, num_ne2, TIS, MDS, AV.cells, AV.isCell, Value.cells, Nat.reduceAdd, Nat.reduceEqDiff, Nat.reduceLT, Nat.reduceLeDiff, Nat.reduceMul, Nat.reduceSub, reduceIte]
def goesOn (l : List Fact) (i : Nat) (e : Fact) : Bool := decide (i = 0) || factBefore (l.getD (i - 1) default) e
def storeStep (l : List Fact) (i : Nat) (e : Fact) (_ : Unit) : Sum Bool Unit := if (isFact e && goesOn l i e) = true then .inr () else .inl false
def isStore (l : List Fact) : Bool := loopL (storeStep l) (fun _ => decide ((l.length : Int) ≤ 30)) 0 l ()
theorem prevF_at {l pre r : List Fact} {e : Fact} (h : l = pre ++ e :: r) (hl : l.length ≤ 140737488355328) (hp : pre.length ≠ 0) :
    IntKind.i64.wrap ((pre.length : Int) - 1) = ((pre.length - 1 : Nat) : Int) ∧ l[pre.length - 1]? = some (l.getD (pre.length - 1) default) ∧ ((0 : Int) < (pre.length : Int)) ∧ (0 : Int) ≤ ((pre.length - 1 : Nat) : Int) := by
  have h1 := (at_row h hl).2.2.2.2
  refine ⟨by rw [IntWalk.i64_in _ (by omega)]; omega, ?_, by omega, by omega⟩
  rw [List.getD_eq_getElem?_getD, List.getElem?_eq_getElem (by omega)]
  rfl
theorem r_spec_IsStore (k : Nat) (hk : 281474976710656 + 10 ≤ k) (l : List Fact) (hl : l.length ≤ 140737488355328) : run E noExt k 101 [.sl true (l.map (Fact.enc true))] [] = some (.bool (isStore l), []) := by
  have c1 := fun e => r_spec_IsFact (fl := true) (k - 1) (by omega) e
  have c3 := fun a b => r_spec_FactBefore (k - 1) (by omega) a b
  obtain ⟨k, rfl⟩ : ∃ j, k = j + 1 := ⟨k - 1, by omega⟩
  rw [run_succ rfl rfl, body_eq (nt := 36) (fn := Go.Proofs.Tryz.f101) (by kernel_rfl) rfl rfl rfl rfl rfl rfl rfl rfl]
  simp -implicitDefEqProofs only [Nat.add_sub_cancel, enc_Fact] at c1 c3
  simp -implicitDefEqProofs only [QS, QN, ZRS, ↓ZDS, Go.Proofs.Tryz.f101, SN, evCutRow, Int.reduceToNat, id_eq, Int.reduceBEq, Int.reduceLE, Int.reduceLT, SS, one_ne2, num_ne2, TIS, MDS, AV.cells, AV.isCell, Value.cells, Nat.reduceAdd, Nat.reduceEqDiff, Nat.reduceLT, Nat.reduceLeDiff, Nat.reduceMul, Nat.reduceSub, reduceIte]
  have fl : Bool := true
  rw [ev_loop]
  refine Eq.trans (loop_list (Q := fun g x => thenEnd E.P [] _ 0 (thenEv E _ _ _ _ _ (outOf 0 x)) = some (.bool g, [])) (l) (storeStep l) (fun _ => decide ((l.length : Int) ≤ 30))
    (fun i b => { sl := [(0, .sl true (l.map (Fact.enc true))), (3, .int .i64 (i : Nat))], bx := [], nx := 0, nt := 36 }) (fun _ _ => True) (()) ?_ ?_ (by first | omega | (simp; omega)) (trivial) ?_) ?_
  · intro b hb
    simp -implicitDefEqProofs only [QS, QN, QG, ZRS, ↓ZDS, ZRG, ↓ZDG, leaf_some, isNormal, ifEv_bool, gate_bool, gateP_bool, gateQ_bool, pick_bool, SN, evCutRow, Int.reduceToNat, id_eq, Int.reduceBEq, Int.reduceLE, Int.reduceLT, SS, one_ne2, num_ne2, TIS, MDS, AV.cells, AV.isCell, Value.cells, Nat.reduceAdd, Nat.reduceEqDiff, Nat.reduceLT, Nat.reduceLeDiff, Nat.reduceMul, Nat.reduceSub, reduceIte]
    repeat' (split <;> (rename_i h; (try simp -implicitDefEqProofs only [Bool.not_eq_true', Bool.not_eq_false', decide_eq_true_eq, decide_eq_false_iff_not] at h); (try simp -implicitDefEqProofs only [QS, QN, QG, ZRS, ↓ZDS, ZRG, ↓ZDG, *, leaf_some, isNormal, ifEv_bool, gate_bool, gateP_bool, gateQ_bool, pick_bool, SN, evCutRow, Int.reduceToNat, id_eq, Int.reduceBEq, Int.reduceLE, Int.reduceLT, SS, one_ne2, num_ne2, TIS, MDS, AV.cells, AV.isCell, Value.cells, Nat.reduceAdd, Nat.reduceEqDiff, Nat.reduceLT, Nat.reduceLeDiff, Nat.reduceMul, Nat.reduceSub, reduceIte])))
  · intro pre e r b hs' hb
    have hx := (at_row hs' hl).1; have hc := (at_row hs' hl).2.1; have hlt := (at_row hs' hl).2.2.1; have hw1 := (at_row hs' hl).2.2.2.1; have hl9 := (at_row hs' hl).2.2.2.2
    have c2 := c1 e
    have hst : goesOn l pre.length e = (decide (pre.length = 0) || factBefore (l.getD (pre.length - 1) default) e) := rfl
    by_cases h0 : pre.length = 0
    · have hd : decide (pre.length = 0) = true := by simp [h0]
      have hg0 : decide ((0 : Int) < (pre.length : Int)) = false := by simp [h0]
      clear hs'
      generalize hv : isFact e = v at c2
      cases v <;> simp -implicitDefEqProofs only [hd, Bool.true_or] at hst
      all_goals
        simp -implicitDefEqProofs only [QS, QN, QG, ZRS, ↓ZDS, ZRG, ↓ZDG, enc_Fact, hx, hlt, hw1, c2, hg0, hv, hst, storeStep, plan_101_4, keep_101_2, leaf_some, isNormal, ifEv_bool, gate_bool, gateP_bool, gateQ_bool, pick_bool, SN, evCutRow, Int.reduceToNat, id_eq, Int.reduceBEq, Int.reduceLE, Int.reduceLT, SS, one_ne2, num_ne2, TIS, MDS, AV.cells, AV.isCell, Value.cells, Nat.reduceAdd, Nat.reduceEqDiff, Nat.reduceLT, Nat.reduceLeDiff, Nat.reduceMul, Nat.reduceSub, reduceIte]
        repeat' (split <;> (rename_i h; (try simp -implicitDefEqProofs only [Bool.not_eq_true', Bool.not_eq_false', decide_eq_true_eq, decide_eq_false_iff_not] at h); (try simp -implicitDefEqProofs only [QS, QN, QG, ZRS, ↓ZDS, ZRG, ↓ZDG, *, enc_Fact, hx, hlt, hw1, c2, hg0, hv, hst, storeStep, plan_101_4, keep_101_2, leaf_some, isNormal, ifEv_bool, gate_bool, gateP_bool, gateQ_bool, pick_bool, SN, evCutRow, Int.reduceToNat, id_eq, Int.reduceBEq, Int.reduceLE, Int.reduceLT, SS, one_ne2, num_ne2, TIS, MDS, AV.cells, AV.isCell, Value.cells, Nat.reduceAdd, Nat.reduceEqDiff, Nat.reduceLT, Nat.reduceLeDiff, Nat.reduceMul, Nat.reduceSub, reduceIte])))
    · obtain ⟨f1, f2, f3, f4⟩ := prevF_at hs' hl h0
      have hd : decide (pre.length = 0) = false := by simp [h0]
      have hg0 : decide ((0 : Int) < (pre.length : Int)) = true := by simp -implicitDefEqProofs only [decide_eq_true_eq]; exact f3
      have c4 := c3 (l.getD (pre.length - 1) default) e
      have hlt1 : ((pre.length - 1 : Nat) : Int) < (l.length : Int) := by omega
      clear hs'
      generalize hv : isFact e = v at c2
      generalize factBefore (l.getD (pre.length - 1) default) e = p1 at hst c4
      cases v <;> cases p1 <;> simp -implicitDefEqProofs only [hd, Bool.false_or, Bool.and_true, Bool.and_false, Bool.not_true, Bool.not_false] at hst
      all_goals
        simp -implicitDefEqProofs only [QS, QN, QG, ZRS, ↓ZDS, ZRG, ↓ZDG, enc_Fact, hx, hlt, hlt1, hw1, c2, c4, hg0, f1, f2, f4, hv, hst, storeStep, plan_101_4, keep_101_2, leaf_some, isNormal, ifEv_bool, gate_bool, gateP_bool, gateQ_bool, pick_bool, SN, evCutRow, Int.reduceToNat, id_eq, Int.reduceBEq, Int.reduceLE, Int.reduceLT, SS, one_ne2, num_ne2, TIS, MDS, AV.cells, AV.isCell, Value.cells, Nat.reduceAdd, Nat.reduceEqDiff, Nat.reduceLT, Nat.reduceLeDiff, Nat.reduceMul, Nat.reduceSub, reduceIte]
        repeat' (split <;> (rename_i h; (try simp -implicitDefEqProofs only [Bool.not_eq_true', Bool.not_eq_false', decide_eq_true_eq, decide_eq_false_iff_not] at h); (try simp -implicitDefEqProofs only [QS, QN, QG, ZRS, ↓ZDS, ZRG, ↓ZDG, *, enc_Fact, hx, hlt, hlt1, hw1, c2, c4, hg0, f1, f2, f4, hv, hst, storeStep, plan_101_4, keep_101_2, leaf_some, isNormal, ifEv_bool, gate_bool, gateP_bool, gateQ_bool, pick_bool, SN, evCutRow, Int.reduceToNat, id_eq, Int.reduceBEq, Int.reduceLE, Int.reduceLT, SS, one_ne2, num_ne2, TIS, MDS, AV.cells, AV.isCell, Value.cells, Nat.reduceAdd, Nat.reduceEqDiff, Nat.reduceLT, Nat.reduceLeDiff, Nat.reduceMul, Nat.reduceSub, reduceIte])))
  · simp -implicitDefEqProofs only [firstRegion]; rw [keep_101_2]; simp -implicitDefEqProofs only [QS, QN, QG, ZRS, ↓ZDS, ZRG, ↓ZDG, SN, evCutRow, Int.reduceToNat, id_eq, Int.reduceBEq, Int.reduceLE, Int.reduceLT, SS, one_ne2, num_ne2, TIS, MDS, AV.cells, AV.isCell, Value.cells, Nat.reduceAdd, Nat.reduceEqDiff, Nat.reduceLT, Nat.reduceLeDiff, Nat.reduceMul, Nat.reduceSub, reduceIte]; first | done | rfl
  · rfl
theorem cells_facts (l : List Fact) : ((l.map (Fact.enc true)).all fun y => decide (y.cells.length = 6)) = true := by
  rw [List.all_eq_true]
  intro y hy
  obtain ⟨c, _, rfl⟩ := List.mem_map.1 hy
  rfl
theorem plains_facts (l : List Fact) : plains (l.map (Fact.enc true)) = true := by
  unfold plains
  rw [List.all_eq_true]
  intro y hy
  obtain ⟨c, _, rfl⟩ := List.mem_map.1 hy
  rfl
theorem append_facts {t u id nid : Nat} {l : List Fact} {dst : Option Nat} {st : St} (htu : t = 25) (hu : u = t) (ht : st.tree = false) (hl : l.length ≤ 1048576) :
    evAppend E.P t u (.own id false 74 6 []) (.sl true (l.map (Fact.enc true))) nid dst st = (st.scrub [id]).put dst (.own nid false 74 6 (l.map (Fact.enc true))) := by
  subst hu
  subst htu
  have hm1 : l.length * 48 ≤ 140737488355328 := by omega
  have hm2 : l.length ≤ 9223372036854775807 := by omega
  have h1 := cells_facts l
  have h2 := plains_facts l
  simp -implicitDefEqProofs only [evAppend, rowOf, TIS, Option.bind_some, h1, h2, zeroOK, spent, List.length_map, List.length_nil, List.nil_append, Nat.zero_add, ht, hm1, hm2, List.not_mem_nil, not_false_eq_true, and_self, if_true, true_and, or_true]
  rw [if_pos]
  exact ⟨by decide, rfl, trivial⟩
theorem r_spec_l7Copy (k : Nat) (hk : 281474976710656 + 1 ≤ k) (l : List Fact) (hl : l.length ≤ 1048576) : run E noExt k 103 [.sl true (l.map (Fact.enc true))] [] = some (.own 0 false 74 6 (l.map (Fact.enc true)), []) := by
  obtain ⟨k, rfl⟩ : ∃ j, k = j + 1 := ⟨k - 1, by omega⟩
  rw [run_succ rfl rfl, body_eq (nt := 6) (fn := Go.Proofs.Tryz.f103) (by kernel_rfl) rfl rfl rfl rfl rfl rfl rfl rfl]
  simp -implicitDefEqProofs only [QS, QN, QG, QO, ZRS, ↓ZDS, ZRG, ↓ZDG, ZRO, ↓ZDO, hl, append_facts, Go.Proofs.Tryz.f103, SO, SH, noref, isRef, isPtr, noPtr, isBad, AV.isUndef, SN, evCutRow, Int.reduceToNat, id_eq, Int.reduceBEq, Int.reduceLE, Int.reduceLT, SS, one_ne2, num_ne2, TIS, MDS, AV.cells, AV.isCell, Value.cells, Nat.reduceAdd, Nat.reduceEqDiff, Nat.reduceLT, Nat.reduceLeDiff, Nat.reduceMul, Nat.reduceSub, reduceIte]
  try trace_state
end Go.Proofs.YtigfcbcnfppmcaaGreat.Flat
namespace Go.Proofs.YtigfcbcnfppmcaaGreat.Flat
theorem any_swap2 (s : List Int) (x : Int) : (s.any fun y => decide (x = y)) = s.any fun c => c == x := by
  congr 1
  funext y
  rw [Bool.eq_iff_iff, decide_eq_true_iff, beq_iff_eq]
  exact eq_comm
def onlyStep (keep : List Int) (i : Nat) (f : Fact) (b : List Fact) : Sum (List Fact) (List Fact) := .inr (if (keep.any fun c => c == (i : Int)) = true then b ++ [f] else b)
def onlyFacts (s : List Fact) (keep : List Int) : List Fact := loopL (onlyStep keep) id 0 s []
theorem onlyLoop_len (keep : List Int) : ∀ (s : List Fact) (i : Nat) (b : List Fact), (loopL (onlyStep keep) id i s b).length ≤ b.length + s.length
  | [], i, b => by simp [loopL]
  | c :: r, i, b => by
    simp -implicitDefEqProofs only [loopL, onlyStep]
    have := onlyLoop_len keep r (i + 1) (if (keep.any fun c => c == (i : Int)) = true then b ++ [c] else b)
    refine Nat.le_trans this ?_
    split <;> simp <;> omega
theorem onlyFacts_len (s : List Fact) (keep : List Int) : (onlyFacts s keep).length ≤ s.length := by
  have := onlyLoop_len keep s 0 []
  simpa [onlyFacts] using this
theorem rowss_Fact (m : List Fact) : AV.rowss (m.map (Fact.enc true)) = [] := by
  induction m with
  | nil => rfl
  | cons b m ih => simpa [AV.rowss, AV.rows, enc_Fact] using ih
theorem boxess_Fact (m : List Fact) : AV.boxess (m.map (Fact.enc true)) = [] := by
  induction m with
  | nil => rfl
  | cons b m ih => simpa [AV.boxess, AV.boxes, enc_Fact] using ih
theorem mapOs_Fact {f : Nat → Bool → Nat → Nat → List AV → AV} {g : Nat → Nat → AV} {h : Bool → Nat → Bool → Nat → Nat → List AV → Nat → Nat → AV} {z : Unit → AV} (m : List Fact) : AV.mapOs f g h z (m.map (Fact.enc true)) = m.map (Fact.enc true) := by
  induction m with
  | nil => rfl
  | cons b m ih => simp [AV.mapOs, AV.mapO, enc_Fact, ih]
theorem scals_Fact (m : List Fact) : AV.scals (m.map (Fact.enc true)) = true := by
  induction m with
  | nil => rfl
  | cons b m ih => simpa [AV.scals, AV.scal, enc_Fact] using ih
theorem r_impl_OnlyFacts {fl f2 : Bool} (k : Nat) (hk : 281474976710656 + 3 ≤ k) (s : List Fact) (hs : s.length ≤ 1099511627776) (keep : List Int) (hp : keep.length ≤ 140737488355328) :
    run E noExt k 9 [.sl fl (s.map (Fact.enc fl)), .sl f2 (keep.map (AV.int .i64))] [] = some (.own 0 false 74 6 ((onlyFacts s keep).map (Fact.enc true)), []) := by
  have hs1 := hs
  have hs : s.length ≤ 140737488355328 := by omega
  have c1 := r_slices_Contains_Int (fl := f2) (gl := f2) (k - 1) (by omega) keep hp
  simp -implicitDefEqProofs only [any_swap2] at c1
  obtain ⟨k, rfl⟩ : ∃ j, k = j + 1 := ⟨k - 1, by omega⟩
  rw [run_succ rfl rfl, body_eq (nt := 25) (fn := Go.Proofs.Tryz.f9) (by kernel_rfl) rfl rfl rfl rfl rfl rfl rfl rfl]
  simp -implicitDefEqProofs only [Nat.add_sub_cancel] at c1
  simp -implicitDefEqProofs only [QS, QN, QO, ZRS, ↓ZDS, ZRO, ↓ZDO, Go.Proofs.Tryz.f9, SO, SH, evAppend, rowOf, noref, isRef, isPtr, noPtr, isBad, AV.isUndef, dedup, nodupB, idx, AV.rows, AV.rowss, AV.mapO, AV.mapOs, SN, evCutRow, Int.reduceToNat, id_eq, Int.reduceBEq, Int.reduceLE, Int.reduceLT, SS, one_ne2, num_ne2, TIS, MDS, AV.cells, AV.isCell, Value.cells, Nat.reduceAdd, Nat.reduceEqDiff, Nat.reduceLT, Nat.reduceLeDiff, Nat.reduceMul, Nat.reduceSub, reduceIte]
  rw [ev_loop]
  refine Eq.trans (loop_list (Q := fun g x => thenEnd E.P [] _ 0 (thenEv E _ _ _ _ _ (outOf 0 x)) = some (.own 0 false 74 6 (g.map (Fact.enc true)), [])) s (onlyStep keep) id
    (fun i b => { sl := [(1, .sl f2 (keep.map (AV.int .i64))), (5, .own 0 false 74 6 (b.map (Fact.enc true))), (9, .sl fl (s.map (Fact.enc fl))), (10, .int .i64 (s.length : Nat)), (11, .int .i64 (i : Nat))], bx := [], nx := 1, nt := 25 }) (fun i b => b.length ≤ i) [] ?_ ?_ (by omega) (by simp) ?_) ?_
  · intro b _
    simp -implicitDefEqProofs only [QS, QN, QG, QO, ZRS, ↓ZDS, ZRG, ↓ZDG, ZRO, ↓ZDO, rowss_Fact, boxess_Fact, mapOs_Fact, SO, SH, evAppend, rowOf, noref, isRef, isPtr, noPtr, isBad, AV.isUndef, leaf_some, isNormal, ifEv_bool, gate_bool, gateP_bool, gateQ_bool, pick_bool, SN, evCutRow, Int.reduceToNat, id_eq, Int.reduceBEq, Int.reduceLE, Int.reduceLT, SS, one_ne2, num_ne2, TIS, MDS, AV.cells, AV.isCell, Value.cells, Nat.reduceAdd, Nat.reduceEqDiff, Nat.reduceLT, Nat.reduceLeDiff, Nat.reduceMul, Nat.reduceSub, reduceIte]
    repeat' (split <;> (rename_i h; (try simp -implicitDefEqProofs only [Bool.not_eq_true', Bool.not_eq_false', decide_eq_true_eq, decide_eq_false_iff_not] at h); (try simp -implicitDefEqProofs only [QS, QN, QG, QO, ZRS, ↓ZDS, ZRG, ↓ZDG, ZRO, ↓ZDO, *, rowss_Fact, boxess_Fact, mapOs_Fact, SO, SH, evAppend, rowOf, noref, isRef, isPtr, noPtr, isBad, AV.isUndef, leaf_some, isNormal, ifEv_bool, gate_bool, gateP_bool, gateQ_bool, pick_bool, SN, evCutRow, Int.reduceToNat, id_eq, Int.reduceBEq, Int.reduceLE, Int.reduceLT, SS, one_ne2, num_ne2, TIS, MDS, AV.cells, AV.isCell, Value.cells, Nat.reduceAdd, Nat.reduceEqDiff, Nat.reduceLT, Nat.reduceLeDiff, Nat.reduceMul, Nat.reduceSub, reduceIte])))
  · intro pre c r b hs' hb
    have hx := (at_row hs' hs).1; have hc := (at_row hs' hs).2.1; have hlt := (at_row hs' hs).2.2.1; have hw1 := (at_row hs' hs).2.2.2.1; have hl9 := (at_row hs' hs).2.2.2.2
    clear hs'
    have hm1 : (b.length + 1) * 48 ≤ 140737488355328 := by omega
    have hm2 : b.length + 1 ≤ 9223372036854775807 := by omega
    have hpl : plains [AV.agg [.int .i64 c.kind, .int .i64 c.subject, .int .i64 c.value, .int .i64 c.issuer, .int .i64 c.at_, .int .i64 c.until_]] = true := rfl
    have hm3 : b.length ≤ pre.length + 1 := by omega
    have hm4 : (b ++ [c]).length ≤ pre.length + 1 := by rw [List.length_append]; exact Nat.succ_le_succ hb
    have c2 := c1 ((pre.length : Nat) : Int)
    have hst : onlyStep keep pre.length c b = .inr (if (keep.any fun z => z == ((pre.length : Nat) : Int)) = true then b ++ [c] else b) := rfl
    have happ : List.map (Fact.enc true) b ++ [AV.agg [.int .i64 c.kind, .int .i64 c.subject, .int .i64 c.value, .int .i64 c.issuer, .int .i64 c.at_, .int .i64 c.until_]] = List.map (Fact.enc true) (b ++ [c]) := by simp [enc_Fact]
    cases e : (keep.any fun z => z == ((pre.length : Nat) : Int)) <;> simp -implicitDefEqProofs only [e, Bool.false_eq_true, if_false, if_true] at hst c2
    all_goals
      simp -implicitDefEqProofs only [QS, QN, QG, QO, ZRS, ↓ZDS, ZRG, ↓ZDG, ZRO, ↓ZDO, enc_Fact, hx, hlt, hw1, c2, hm1, hm2, hm3, hm4, hpl, hst, happ, rowss_Fact, boxess_Fact, mapOs_Fact, SO, SH, evAppend, rowOf, noref, isRef, isPtr, noPtr, isBad, AV.isUndef, keep_9_3, leaf_some, isNormal, ifEv_bool, gate_bool, gateP_bool, gateQ_bool, pick_bool, SN, evCutRow, Int.reduceToNat, id_eq, Int.reduceBEq, Int.reduceLE, Int.reduceLT, SS, one_ne2, num_ne2, TIS, MDS, AV.cells, AV.isCell, Value.cells, Nat.reduceAdd, Nat.reduceEqDiff, Nat.reduceLT, Nat.reduceLeDiff, Nat.reduceMul, Nat.reduceSub, reduceIte]
      repeat' (split <;> (rename_i h; (try simp -implicitDefEqProofs only [Bool.not_eq_true', Bool.not_eq_false', decide_eq_true_eq, decide_eq_false_iff_not] at h); (try simp -implicitDefEqProofs only [QS, QN, QG, QO, ZRS, ↓ZDS, ZRG, ↓ZDG, ZRO, ↓ZDO, *, enc_Fact, hx, hlt, hw1, c2, hm1, hm2, hm3, hm4, hpl, hst, happ, rowss_Fact, boxess_Fact, mapOs_Fact, SO, SH, evAppend, rowOf, noref, isRef, isPtr, noPtr, isBad, AV.isUndef, keep_9_3, leaf_some, isNormal, ifEv_bool, gate_bool, gateP_bool, gateQ_bool, pick_bool, SN, evCutRow, Int.reduceToNat, id_eq, Int.reduceBEq, Int.reduceLE, Int.reduceLT, SS, one_ne2, num_ne2, TIS, MDS, AV.cells, AV.isCell, Value.cells, Nat.reduceAdd, Nat.reduceEqDiff, Nat.reduceLT, Nat.reduceLeDiff, Nat.reduceMul, Nat.reduceSub, reduceIte])))
  · simp -implicitDefEqProofs only [firstRegion]
    rw [keep_9_3]
    simp -implicitDefEqProofs only [QS, QN, QG, QO, ZRS, ↓ZDS, ZRG, ↓ZDG, ZRO, ↓ZDO, SN, evCutRow, Int.reduceToNat, id_eq, Int.reduceBEq, Int.reduceLE, Int.reduceLT, SO, SH, evAppend, rowOf, noref, isRef, isPtr, noPtr, isBad, AV.isUndef, SS, one_ne2, num_ne2, TIS, MDS, AV.cells, AV.isCell, Value.cells, Nat.reduceAdd, Nat.reduceEqDiff, Nat.reduceLT, Nat.reduceLeDiff, Nat.reduceMul, Nat.reduceSub, reduceIte]
  · rfl
end Go.Proofs.YtigfcbcnfppmcaaGreat.Flat
