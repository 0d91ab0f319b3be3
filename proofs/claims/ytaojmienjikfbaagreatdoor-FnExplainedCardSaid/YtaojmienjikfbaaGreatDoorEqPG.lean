/-
Facts put into stores: the reference.
-/
import Derived.Test.YtaojmienjikfbaaGreatDoorEqYM
import Derived.Test.YtaojmienjikfbaaGreatDoorEqIOB
set_option linter.unusedVariables false
set_option linter.unusedSimpArgs false
set_option maxRecDepth 10000
namespace Go.Proofs.YtaojmienjikfbaaGreatDoor.Flat
section
variable {P : Program} {st : St}
theorem resultsOf_two {r s : ResultVar} {rs : List ResultVar} {vs : List AV} (h : resultsOf P st (r :: s :: rs) = some vs) : ∃ v u us, vs = v :: u :: us := by
  simp -implicitDefEqProofs only [resultsOf] at h
  obtain ⟨v, _, h⟩ := Option.bind_eq_some_iff.1 h
  obtain ⟨ws, h1, rfl⟩ := Option.map_eq_some_iff.1 h
  obtain ⟨u, _, h1⟩ := Option.bind_eq_some_iff.1 h1
  obtain ⟨us, _, rfl⟩ := Option.map_eq_some_iff.1 h1
  exact ⟨v, u, us, rfl⟩
theorem finish_many0 {r s : ResultVar} {rs : List ResultVar} : finish P [] (r :: s :: rs) 0 st = (resultsOf P st (r :: s :: rs)).bind fun vs => finV (.tup vs) := by
  cases h : resultsOf P st (r :: s :: rs) with
  | none => unfold finish; simp -implicitDefEqProofs only [h]; rfl
  | some vs =>
    obtain ⟨v, u, us, rfl⟩ := resultsOf_two h
    simp -implicitDefEqProofs only [Option.bind_some]
    have := finW_eq (st := st) (v := .tup (v :: u :: us))
    unfold finish
    simp -implicitDefEqProofs only [h, Option.bind_some]
    exact this
theorem finish_many1 {m : Mode} {md : List Mode} {r s : ResultVar} {rs : List ResultVar} (hm : mutSlots 0 (m :: md) = []) : finish P (m :: md) (r :: s :: rs) 1 st = (resultsOf P st (r :: s :: rs)).bind fun vs => finI st (.tup vs) := by
  cases h : resultsOf P st (r :: s :: rs) with
  | none => unfold finish; simp -implicitDefEqProofs only [h]; rfl
  | some vs =>
    obtain ⟨v, u, us, rfl⟩ := resultsOf_two h
    simp -implicitDefEqProofs only [Option.bind_some]
    rw [← finI_eq (fun _ _ => by simp)]
    unfold finish
    simp -implicitDefEqProofs only [h, hm, Option.bind_some]
    rfl
theorem finish_manyI {r s : ResultVar} {rs : List ResultVar} : finish P [.io] (r :: s :: rs) 1 st = (resultsOf P st (r :: s :: rs)).bind fun vs => finI st (.tup vs) := finish_many1 rfl
end
def factBefore (a b : Fact) : Bool :=
  if (!(a.kind == b.kind)) = true then decide (a.kind < b.kind) else if (!(a.subject == b.subject)) = true then decide (a.subject < b.subject) else if (!(a.value == b.value)) = true then decide (a.value < b.value) else decide (a.issuer < b.issuer)
theorem r_spec_FactBefore (k : Nat) (hk : 281474976710656 + 1 ≤ k) (a b : Fact) : run E noExt k 111 [a.enc true, b.enc true] [] = some (.bool (factBefore a b), []) := by
  obtain ⟨k, rfl⟩ : ∃ j, k = j + 1 := ⟨k - 1, by omega⟩
  rw [run_succ rfl rfl, body_eq (nt := 40) (fn := Go.Proofs.Tryz.f111) (by kernel_rfl) rfl rfl rfl rfl rfl rfl rfl rfl]
  unfold factBefore
  cases h1 : a.kind == b.kind <;> cases h2 : a.subject == b.subject <;> cases h3 : a.value == b.value
  all_goals
    simp -implicitDefEqProofs only [W1, ↓D1, ↓DC, enc_Fact, h1, h2, h3, Go.Proofs.Tryz.f111, bne, Int.reduceToNat, id_eq, Int.reduceBEq, Int.reduceLE, Int.reduceLT, Nat.reduceAdd, Nat.reduceEqDiff, Nat.reduceLT, Nat.reduceLeDiff, Nat.reduceMul, Nat.reduceSub, reduceIte]
def sameClaim (a b : Fact) : Bool := ((a.kind == b.kind) && (a.subject == b.subject)) && (a.value == b.value) && (a.issuer == b.issuer)
theorem r_spec_SameClaim (k : Nat) (hk : 281474976710656 + 1 ≤ k) (a b : Fact) : run E noExt k 112 [a.enc true, b.enc true] [] = some (.bool (sameClaim a b), []) := by
  obtain ⟨k, rfl⟩ : ∃ j, k = j + 1 := ⟨k - 1, by omega⟩
  rw [run_succ rfl rfl, body_eq (nt := 31) (fn := Go.Proofs.Tryz.f112) (by kernel_rfl) rfl rfl rfl rfl rfl rfl rfl rfl]
  unfold sameClaim
  cases h1 : a.kind == b.kind <;> cases h2 : a.subject == b.subject <;> cases h3 : a.value == b.value
  all_goals
    simp -implicitDefEqProofs only [W1, ↓D1, ↓DC, enc_Fact, h1, h2, h3, Go.Proofs.Tryz.f112, bne, Int.reduceToNat, id_eq, Int.reduceBEq, Int.reduceLE, Int.reduceLT, Nat.reduceAdd, Nat.reduceEqDiff, Nat.reduceLT, Nat.reduceLeDiff, Nat.reduceMul, Nat.reduceSub, reduceIte]
def goesOn (l : List Fact) (i : Nat) (e : Fact) : Bool := decide (i = 0) || factBefore (l.getD (i - 1) default) e
def storeStep (l : List Fact) (i : Nat) (e : Fact) (_ : Unit) : Sum Bool Unit := if (isFact e && goesOn l i e) = true then .inr () else .inl false
def isStore (l : List Fact) : Bool := loopL (storeStep l) (fun _ => decide ((l.length : Int) ≤ 30)) 0 l ()
theorem prevF_at {l pre r : List Fact} {e : Fact} (h : l = pre ++ e :: r) (hl : l.length ≤ 140737488355328) (hp : pre.length ≠ 0) :
    IntKind.i64.wrap ((pre.length : Int) - 1) = ((pre.length - 1 : Nat) : Int) ∧ l[pre.length - 1]? = some (l.getD (pre.length - 1) default) ∧ ((0 : Int) < (pre.length : Int)) ∧ (0 : Int) ≤ ((pre.length - 1 : Nat) : Int) := by
  have h1 := (at_row h hl).2.2.2.2
  refine ⟨by rw [IntWalk.i64_in _ (by omega)]; omega, ?_, by omega, by omega⟩
  rw [List.getD_eq_getElem?_getD, List.getElem?_eq_getElem (by omega)]
  rfl
theorem r_spec_IsStore (k : Nat) (hk : 281474976710656 + 10 ≤ k) (l : List Fact) (hl : l.length ≤ 140737488355328) : run E noExt k 108 [.sl true (l.map (Fact.enc true))] [] = some (.bool (isStore l), []) := by
  have c1 := fun e => r_spec_IsFact (fl := true) (k - 1) (by omega) e
  have c3 := fun a b => r_spec_FactBefore (k - 1) (by omega) a b
  obtain ⟨k, rfl⟩ : ∃ j, k = j + 1 := ⟨k - 1, by omega⟩
  rw [run_succ rfl rfl, body_eq (nt := 36) (fn := Go.Proofs.Tryz.f108) (by kernel_rfl) rfl rfl rfl rfl rfl rfl rfl rfl]
  simp -implicitDefEqProofs only [Nat.add_sub_cancel, enc_Fact] at c1 c3
  simp -implicitDefEqProofs only [W1, ↓D1, ↓DC, Go.Proofs.Tryz.f108, Int.reduceToNat, id_eq, Int.reduceBEq, Int.reduceLE, Int.reduceLT, Nat.reduceAdd, Nat.reduceEqDiff, Nat.reduceLT, Nat.reduceLeDiff, Nat.reduceMul, Nat.reduceSub, reduceIte]
  have fl : Bool := true
  rw [ev_loop]
  refine Eq.trans (loop_list (Q := fun g x => thenEnd E.P [] _ 0 (thenEv E _ _ _ _ _ (outOf 0 x)) = some (.bool g, [])) (l) (storeStep l) (fun _ => decide ((l.length : Int) ≤ 30))
    (fun i b => { sl := [(0, .sl true (l.map (Fact.enc true))), (3, .int .i64 (i : Nat))], bx := [], nx := 0, nt := 36 }) (fun _ _ => True) (()) ?_ ?_ (by first | omega | (simp; omega)) (trivial) ?_) ?_
  · intro b hb
    simp -implicitDefEqProofs only [W2, ↓D2, ↓DC, QX, leaf_some, isNormal, Int.reduceToNat, id_eq, Int.reduceBEq, Int.reduceLE, Int.reduceLT, Nat.reduceAdd, Nat.reduceEqDiff, Nat.reduceLT, Nat.reduceLeDiff, Nat.reduceMul, Nat.reduceSub, reduceIte]
    repeat' (split <;> (rename_i h; (try simp -implicitDefEqProofs only [Bool.not_eq_true', Bool.not_eq_false', decide_eq_true_eq, decide_eq_false_iff_not] at h); (try simp -implicitDefEqProofs only [W2, ↓D2, ↓DC, QX, *, leaf_some, isNormal, Int.reduceToNat, id_eq, Int.reduceBEq, Int.reduceLE, Int.reduceLT, Nat.reduceAdd, Nat.reduceEqDiff, Nat.reduceLT, Nat.reduceLeDiff, Nat.reduceMul, Nat.reduceSub, reduceIte])))
  · intro pre e r b hs' hb
    have hx := (at_row hs' hl).1; have hc := (at_row hs' hl).2.1; have hlt := (at_row hs' hl).2.2.1; have hw1 := (at_row hs' hl).2.2.2.1; have hl9 := (at_row hs' hl).2.2.2.2
    have c2 := c1 e
    have hst : goesOn l pre.length e = (decide (pre.length = 0) || factBefore (l.getD (pre.length - 1) default) e) := rfl
    by_cases h0 : pre.length = 0
    · have hd : decide (pre.length = 0) = true := by simp [h0]
      have hg0 : decide ((0 : Int) < (pre.length : Int)) = false := by simp [h0]
      clear hs'
      generalize hv : isFact e = v at c2
      cases v <;> simp -implicitDefEqProofs only [hd, Bool.true_or] at hst
      all_goals
        simp -implicitDefEqProofs only [W2, ↓D2, ↓DC, QX, enc_Fact, hx, hlt, hw1, c2, hg0, hv, hst, storeStep, plan_108_4, keep_108_2, leaf_some, isNormal, Int.reduceToNat, id_eq, Int.reduceBEq, Int.reduceLE, Int.reduceLT, Nat.reduceAdd, Nat.reduceEqDiff, Nat.reduceLT, Nat.reduceLeDiff, Nat.reduceMul, Nat.reduceSub, reduceIte]
        repeat' (split <;> (rename_i h; (try simp -implicitDefEqProofs only [Bool.not_eq_true', Bool.not_eq_false', decide_eq_true_eq, decide_eq_false_iff_not] at h); (try simp -implicitDefEqProofs only [W2, ↓D2, ↓DC, QX, *, enc_Fact, hx, hlt, hw1, c2, hg0, hv, hst, storeStep, plan_108_4, keep_108_2, leaf_some, isNormal, Int.reduceToNat, id_eq, Int.reduceBEq, Int.reduceLE, Int.reduceLT, Nat.reduceAdd, Nat.reduceEqDiff, Nat.reduceLT, Nat.reduceLeDiff, Nat.reduceMul, Nat.reduceSub, reduceIte])))
    · obtain ⟨f1, f2, f3, f4⟩ := prevF_at hs' hl h0
      have hd : decide (pre.length = 0) = false := by simp [h0]
      have hg0 : decide ((0 : Int) < (pre.length : Int)) = true := by simp -implicitDefEqProofs only [decide_eq_true_eq]; exact f3
      have c4 := c3 (l.getD (pre.length - 1) default) e
      have hlt1 : ((pre.length - 1 : Nat) : Int) < (l.length : Int) := by omega
      clear hs'
      generalize hv : isFact e = v at c2
      generalize factBefore (l.getD (pre.length - 1) default) e = p1 at hst c4
      cases v <;> cases p1 <;> simp -implicitDefEqProofs only [hd, Bool.false_or, Bool.and_true, Bool.and_false, Bool.not_true, Bool.not_false] at hst
      all_goals
        simp -implicitDefEqProofs only [W2, ↓D2, ↓DC, QX, enc_Fact, hx, hlt, hlt1, hw1, c2, c4, hg0, f1, f2, f4, hv, hst, storeStep, plan_108_4, keep_108_2, leaf_some, isNormal, Int.reduceToNat, id_eq, Int.reduceBEq, Int.reduceLE, Int.reduceLT, Nat.reduceAdd, Nat.reduceEqDiff, Nat.reduceLT, Nat.reduceLeDiff, Nat.reduceMul, Nat.reduceSub, reduceIte]
        repeat' (split <;> (rename_i h; (try simp -implicitDefEqProofs only [Bool.not_eq_true', Bool.not_eq_false', decide_eq_true_eq, decide_eq_false_iff_not] at h); (try simp -implicitDefEqProofs only [W2, ↓D2, ↓DC, QX, *, enc_Fact, hx, hlt, hlt1, hw1, c2, c4, hg0, f1, f2, f4, hv, hst, storeStep, plan_108_4, keep_108_2, leaf_some, isNormal, Int.reduceToNat, id_eq, Int.reduceBEq, Int.reduceLE, Int.reduceLT, Nat.reduceAdd, Nat.reduceEqDiff, Nat.reduceLT, Nat.reduceLeDiff, Nat.reduceMul, Nat.reduceSub, reduceIte])))
  · simp -implicitDefEqProofs only [firstRegion]; rw [keep_108_2]; simp -implicitDefEqProofs only [W2, ↓D2, ↓DC, Int.reduceToNat, id_eq, Int.reduceBEq, Int.reduceLE, Int.reduceLT, Nat.reduceAdd, Nat.reduceEqDiff, Nat.reduceLT, Nat.reduceLeDiff, Nat.reduceMul, Nat.reduceSub, reduceIte]; first | done | rfl
  · rfl
theorem cells_facts (l : List Fact) : ((l.map (Fact.enc true)).all fun y => decide (y.cells.length = 6)) = true := by
  rw [List.all_eq_true]
  intro y hy
  obtain ⟨c, _, rfl⟩ := List.mem_map.1 hy
  rfl
theorem plains_facts (l : List Fact) : plains (l.map (Fact.enc true)) = true := by
  unfold plains
  rw [List.all_eq_true]
  intro y hy
  obtain ⟨c, _, rfl⟩ := List.mem_map.1 hy
  rfl
theorem append_facts {t u id nid : Nat} {l : List Fact} {dst : Option Nat} {st : St} (htu : t = 35) (hu : u = t) (ht : st.tree = false) (hl : l.length ≤ 1048576) :
    evAppend E.P t u (.own id false 70 6 []) (.sl true (l.map (Fact.enc true))) nid dst st = (st.scrub [id]).put dst (.own nid false 70 6 (l.map (Fact.enc true))) := by
  subst hu
  subst htu
  have hm1 : l.length * 48 ≤ 140737488355328 := by omega
  have hm2 : l.length ≤ 9223372036854775807 := by omega
  have h1 := cells_facts l
  have h2 := plains_facts l
  simp -implicitDefEqProofs only [evAppend, rowOf, TIS, Option.bind_some, h1, h2, zeroOK, spent, List.length_map, List.length_nil, List.nil_append, Nat.zero_add, ht, hm1, hm2, List.not_mem_nil, not_false_eq_true, and_self, if_true, true_and, or_true]
  rw [if_pos]
  exact ⟨by decide, rfl, trivial⟩
theorem r_spec_l7Copy (k : Nat) (hk : 281474976710656 + 1 ≤ k) (l : List Fact) (hl : l.length ≤ 1048576) : run E noExt k 110 [.sl true (l.map (Fact.enc true))] [] = some (.own 0 false 70 6 (l.map (Fact.enc true)), []) := by
  obtain ⟨k, rfl⟩ : ∃ j, k = j + 1 := ⟨k - 1, by omega⟩
  rw [run_succ rfl rfl, body_eq (nt := 6) (fn := Go.Proofs.Tryz.f110) (by kernel_rfl) rfl rfl rfl rfl rfl rfl rfl rfl]
  simp -implicitDefEqProofs only [W3, ↓D3, ↓DP, ↓DC, hl, append_facts, Go.Proofs.Tryz.f110, SH, Int.reduceToNat, id_eq, Int.reduceBEq, Int.reduceLE, Int.reduceLT, Nat.reduceAdd, Nat.reduceEqDiff, Nat.reduceLT, Nat.reduceLeDiff, Nat.reduceMul, Nat.reduceSub, reduceIte]
  try trace_state
theorem any_swap2 (s : List Int) (x : Int) : (s.any fun y => decide (x = y)) = s.any fun c => c == x := by
  congr 1
  funext y
  rw [Bool.eq_iff_iff, decide_eq_true_iff, beq_iff_eq]
  exact eq_comm
def woStep (n : Int) (_ : Nat) (c : Int) (b : List Int) : Sum (List Int) (List Int) := .inr (if (c == n) = true then b else b ++ [c])
def withoutIdx (s : List Int) (n : Int) : List Int := loopL (woStep n) id 0 s []
theorem woLoop_len (n : Int) : ∀ (s : List Int) (i : Nat) (b : List Int), (loopL (woStep n) id i s b).length ≤ b.length + s.length
  | [], i, b => by simp [loopL]
  | c :: r, i, b => by
    simp -implicitDefEqProofs only [loopL, woStep]
    have := woLoop_len n r (i + 1) (if (c == n) = true then b else b ++ [c])
    split at this <;> simp at this ⊢ <;> (try simp_all) <;> omega
theorem withoutIdx_len (s : List Int) (n : Int) : (withoutIdx s n).length ≤ s.length := by
  have := woLoop_len n s 0 []
  simpa [withoutIdx] using this
theorem r_impl_WithoutIndex {fl : Bool} (k : Nat) (hk : 281474976710656 + 1 ≤ k) (s : List Int) (hs : s.length ≤ 1099511627776) (n : Int) :
    run E noExt k 39 [.sl fl (s.map (AV.int .i64)), .int .i64 n] [] = some (.own 0 false 3 1 ((withoutIdx s n).map (AV.int .i64)), []) := by
  have hs1 := hs
  have hs : s.length ≤ 140737488355328 := by omega
  obtain ⟨k, rfl⟩ : ∃ j, k = j + 1 := ⟨k - 1, by omega⟩
  rw [run_succ rfl rfl, body_eq (nt := 24) (fn := Go.Proofs.Tryz.f39) (by kernel_rfl) rfl rfl rfl rfl rfl rfl rfl rfl]
  simp -implicitDefEqProofs only [W4, ↓D4, ↓DA, ↓DP, ↓DC, Go.Proofs.Tryz.f39, SH, dedup, nodupB, idx, AV.rows, AV.rowss, AV.mapO, AV.mapOs, Int.reduceToNat, id_eq, Int.reduceBEq, Int.reduceLE, Int.reduceLT, Nat.reduceAdd, Nat.reduceEqDiff, Nat.reduceLT, Nat.reduceLeDiff, Nat.reduceMul, Nat.reduceSub, reduceIte]
  rw [ev_loop]
  refine Eq.trans (loop_list (Q := fun g x => thenEnd E.P [] _ 0 (thenEv E _ _ _ _ _ (outOf 0 x)) = some (.own 0 false 3 1 (g.map (AV.int .i64)), [])) s (woStep n) id
    (fun i b => { sl := [(1, .int .i64 n), (5, .own 0 false 3 1 (b.map (AV.int .i64))), (9, .sl fl (s.map (AV.int .i64))), (10, .int .i64 (s.length : Nat)), (11, .int .i64 (i : Nat))], bx := [], nx := 1, nt := 24 }) (fun i b => b.length ≤ i) [] ?_ ?_ (by omega) (by simp) ?_) ?_
  · intro b _
    simp -implicitDefEqProofs only [W3, ↓D3, ↓DA, ↓DP, ↓DC, QX, SH, leaf_some, isNormal, Int.reduceToNat, id_eq, Int.reduceBEq, Int.reduceLE, Int.reduceLT, Nat.reduceAdd, Nat.reduceEqDiff, Nat.reduceLT, Nat.reduceLeDiff, Nat.reduceMul, Nat.reduceSub, reduceIte]
    repeat' (split <;> (rename_i h; (try simp -implicitDefEqProofs only [Bool.not_eq_true', Bool.not_eq_false', decide_eq_true_eq, decide_eq_false_iff_not] at h); (try simp -implicitDefEqProofs only [W3, ↓D3, ↓DA, ↓DP, ↓DC, QX, *, SH, leaf_some, isNormal, Int.reduceToNat, id_eq, Int.reduceBEq, Int.reduceLE, Int.reduceLT, Nat.reduceAdd, Nat.reduceEqDiff, Nat.reduceLT, Nat.reduceLeDiff, Nat.reduceMul, Nat.reduceSub, reduceIte])))
  · intro pre c r b hs' hb
    have hx := (at_row hs' hs).1; have hc := (at_row hs' hs).2.1; have hlt := (at_row hs' hs).2.2.1; have hw1 := (at_row hs' hs).2.2.2.1; have hl9 := (at_row hs' hs).2.2.2.2
    clear hs'
    have hm1 : (b.length + 1) * 8 ≤ 140737488355328 := by omega
    have hm2 : b.length + 1 ≤ 9223372036854775807 := by omega
    have hpl : plains [AV.int IntKind.i64 c] = true := rfl
    have hm3 : b.length ≤ pre.length + 1 := by omega
    have hm4 : (b ++ [c]).length ≤ pre.length + 1 := by rw [List.length_append]; exact Nat.succ_le_succ hb
    cases e : (c == n)
    all_goals
      simp -implicitDefEqProofs only [W3, ↓D3, ↓DA, ↓DP, ↓DC, QX, hx, hlt, hw1, e, bne, hm1, hm2, hm3, hm4, hpl, woStep, List.map_append, SH, keep_39_3, leaf_some, isNormal, Int.reduceToNat, id_eq, Int.reduceBEq, Int.reduceLE, Int.reduceLT, Nat.reduceAdd, Nat.reduceEqDiff, Nat.reduceLT, Nat.reduceLeDiff, Nat.reduceMul, Nat.reduceSub, reduceIte]
      repeat' (split <;> (rename_i h; (try simp -implicitDefEqProofs only [Bool.not_eq_true', Bool.not_eq_false', decide_eq_true_eq, decide_eq_false_iff_not] at h); (try simp -implicitDefEqProofs only [W3, ↓D3, ↓DA, ↓DP, ↓DC, QX, *, hx, hlt, hw1, e, bne, hm1, hm2, hm3, hm4, hpl, woStep, List.map_append, SH, keep_39_3, leaf_some, isNormal, Int.reduceToNat, id_eq, Int.reduceBEq, Int.reduceLE, Int.reduceLT, Nat.reduceAdd, Nat.reduceEqDiff, Nat.reduceLT, Nat.reduceLeDiff, Nat.reduceMul, Nat.reduceSub, reduceIte])))
  · simp -implicitDefEqProofs only [firstRegion]
    rw [keep_39_3]
    simp -implicitDefEqProofs only [W3, ↓D3, ↓DA, ↓DP, ↓DC, Int.reduceToNat, id_eq, Int.reduceBEq, Int.reduceLE, Int.reduceLT, SH, Nat.reduceAdd, Nat.reduceEqDiff, Nat.reduceLT, Nat.reduceLeDiff, Nat.reduceMul, Nat.reduceSub, reduceIte]
  · rfl
def onlyStep (keep : List Int) (i : Nat) (f : Fact) (b : List Fact) : Sum (List Fact) (List Fact) := .inr (if (keep.any fun c => c == (i : Int)) = true then b ++ [f] else b)
def onlyFacts (s : List Fact) (keep : List Int) : List Fact := loopL (onlyStep keep) id 0 s []
theorem onlyLoop_len (keep : List Int) : ∀ (s : List Fact) (i : Nat) (b : List Fact), (loopL (onlyStep keep) id i s b).length ≤ b.length + s.length
  | [], i, b => by simp [loopL]
  | c :: r, i, b => by
    simp -implicitDefEqProofs only [loopL, onlyStep]
    have := onlyLoop_len keep r (i + 1) (if (keep.any fun c => c == (i : Int)) = true then b ++ [c] else b)
    refine Nat.le_trans this ?_
    split <;> simp <;> omega
theorem onlyFacts_len (s : List Fact) (keep : List Int) : (onlyFacts s keep).length ≤ s.length := by
  have := onlyLoop_len keep s 0 []
  simpa [onlyFacts] using this
theorem rowss_Fact (m : List Fact) : AV.rowss (m.map (Fact.enc true)) = [] := by
  induction m with
  | nil => rfl
  | cons b m ih => simpa [AV.rowss, AV.rows, enc_Fact] using ih
theorem boxess_Fact (m : List Fact) : AV.boxess (m.map (Fact.enc true)) = [] := by
  induction m with
  | nil => rfl
  | cons b m ih => simpa [AV.boxess, AV.boxes, enc_Fact] using ih
theorem mapOs_Fact {f : Nat → Bool → Nat → Nat → List AV → AV} {g : Nat → Nat → AV} {h : Bool → Nat → Bool → Nat → Nat → List AV → Nat → Nat → AV} {z : Unit → AV} (m : List Fact) : AV.mapOs f g h z (m.map (Fact.enc true)) = m.map (Fact.enc true) := by
  induction m with
  | nil => rfl
  | cons b m ih => simp [AV.mapOs, AV.mapO, enc_Fact, ih]
theorem scals_Fact (m : List Fact) : AV.scals (m.map (Fact.enc true)) = true := by
  induction m with
  | nil => rfl
  | cons b m ih => simpa [AV.scals, AV.scal, enc_Fact] using ih
theorem plains_Fact (m : List Fact) : plains (m.map (Fact.enc true)) = true := plains_map (fun _ => rfl) m
theorem r_impl_OnlyFacts {fl f2 : Bool} (k : Nat) (hk : 281474976710656 + 3 ≤ k) (s : List Fact) (hs : s.length ≤ 1099511627776) (keep : List Int) (hp : keep.length ≤ 140737488355328) :
    run E noExt k 40 [.sl fl (s.map (Fact.enc fl)), .sl f2 (keep.map (AV.int .i64))] [] = some (.own 0 false 70 6 ((onlyFacts s keep).map (Fact.enc true)), []) := by
  have hs1 := hs
  have hs : s.length ≤ 140737488355328 := by omega
  have c1 := r_slices_Contains_Int (fl := f2) (gl := f2) (k - 1) (by omega) keep hp
  simp -implicitDefEqProofs only [any_swap2] at c1
  obtain ⟨k, rfl⟩ : ∃ j, k = j + 1 := ⟨k - 1, by omega⟩
  rw [run_succ rfl rfl, body_eq (nt := 25) (fn := Go.Proofs.Tryz.f40) (by kernel_rfl) rfl rfl rfl rfl rfl rfl rfl rfl]
  simp -implicitDefEqProofs only [Nat.add_sub_cancel] at c1
  simp -implicitDefEqProofs only [W4, ↓D4, ↓DA, ↓DP, ↓DC, Go.Proofs.Tryz.f40, SH, dedup, nodupB, idx, AV.rows, AV.rowss, AV.mapO, AV.mapOs, Int.reduceToNat, id_eq, Int.reduceBEq, Int.reduceLE, Int.reduceLT, Nat.reduceAdd, Nat.reduceEqDiff, Nat.reduceLT, Nat.reduceLeDiff, Nat.reduceMul, Nat.reduceSub, reduceIte]
  rw [ev_loop]
  refine Eq.trans (loop_list (Q := fun g x => thenEnd E.P [] _ 0 (thenEv E _ _ _ _ _ (outOf 0 x)) = some (.own 0 false 70 6 (g.map (Fact.enc true)), [])) s (onlyStep keep) id
    (fun i b => { sl := [(1, .sl f2 (keep.map (AV.int .i64))), (5, .own 0 false 70 6 (b.map (Fact.enc true))), (9, .sl fl (s.map (Fact.enc fl))), (10, .int .i64 (s.length : Nat)), (11, .int .i64 (i : Nat))], bx := [], nx := 1, nt := 25 }) (fun i b => b.length ≤ i) [] ?_ ?_ (by omega) (by simp) ?_) ?_
  · intro b _
    simp -implicitDefEqProofs only [W3, ↓D3, ↓DA, ↓DP, ↓DC, QX, rowss_Fact, boxess_Fact, mapOs_Fact, SH, leaf_some, isNormal, Int.reduceToNat, id_eq, Int.reduceBEq, Int.reduceLE, Int.reduceLT, Nat.reduceAdd, Nat.reduceEqDiff, Nat.reduceLT, Nat.reduceLeDiff, Nat.reduceMul, Nat.reduceSub, reduceIte]
    repeat' (split <;> (rename_i h; (try simp -implicitDefEqProofs only [Bool.not_eq_true', Bool.not_eq_false', decide_eq_true_eq, decide_eq_false_iff_not] at h); (try simp -implicitDefEqProofs only [W3, ↓D3, ↓DA, ↓DP, ↓DC, QX, *, rowss_Fact, boxess_Fact, mapOs_Fact, SH, leaf_some, isNormal, Int.reduceToNat, id_eq, Int.reduceBEq, Int.reduceLE, Int.reduceLT, Nat.reduceAdd, Nat.reduceEqDiff, Nat.reduceLT, Nat.reduceLeDiff, Nat.reduceMul, Nat.reduceSub, reduceIte])))
  · intro pre c r b hs' hb
    have hx := (at_row hs' hs).1; have hc := (at_row hs' hs).2.1; have hlt := (at_row hs' hs).2.2.1; have hw1 := (at_row hs' hs).2.2.2.1; have hl9 := (at_row hs' hs).2.2.2.2
    clear hs'
    have hm1 : (b.length + 1) * 48 ≤ 140737488355328 := by omega
    have hm2 : b.length + 1 ≤ 9223372036854775807 := by omega
    have hpl : plains [AV.agg [.int .i64 c.kind, .int .i64 c.subject, .int .i64 c.value, .int .i64 c.issuer, .int .i64 c.at_, .int .i64 c.until_]] = true := rfl
    have hm3 : b.length ≤ pre.length + 1 := by omega
    have hm4 : (b ++ [c]).length ≤ pre.length + 1 := by rw [List.length_append]; exact Nat.succ_le_succ hb
    have c2 := c1 ((pre.length : Nat) : Int)
    have hst : onlyStep keep pre.length c b = .inr (if (keep.any fun z => z == ((pre.length : Nat) : Int)) = true then b ++ [c] else b) := rfl
    have happ : List.map (Fact.enc true) b ++ [AV.agg [.int .i64 c.kind, .int .i64 c.subject, .int .i64 c.value, .int .i64 c.issuer, .int .i64 c.at_, .int .i64 c.until_]] = List.map (Fact.enc true) (b ++ [c]) := by simp [enc_Fact]
    cases e : (keep.any fun z => z == ((pre.length : Nat) : Int)) <;> simp -implicitDefEqProofs only [e, Bool.false_eq_true, if_false, if_true] at hst c2
    all_goals
      simp -implicitDefEqProofs only [W3, ↓D3, ↓DA, ↓DP, ↓DC, QX, enc_Fact, hx, hlt, hw1, c2, hm1, hm2, hm3, hm4, hpl, hst, happ, rowss_Fact, boxess_Fact, mapOs_Fact, SH, keep_40_3, leaf_some, isNormal, Int.reduceToNat, id_eq, Int.reduceBEq, Int.reduceLE, Int.reduceLT, Nat.reduceAdd, Nat.reduceEqDiff, Nat.reduceLT, Nat.reduceLeDiff, Nat.reduceMul, Nat.reduceSub, reduceIte]
      repeat' (split <;> (rename_i h; (try simp -implicitDefEqProofs only [Bool.not_eq_true', Bool.not_eq_false', decide_eq_true_eq, decide_eq_false_iff_not] at h); (try simp -implicitDefEqProofs only [W3, ↓D3, ↓DA, ↓DP, ↓DC, QX, *, enc_Fact, hx, hlt, hw1, c2, hm1, hm2, hm3, hm4, hpl, hst, happ, rowss_Fact, boxess_Fact, mapOs_Fact, SH, keep_40_3, leaf_some, isNormal, Int.reduceToNat, id_eq, Int.reduceBEq, Int.reduceLE, Int.reduceLT, Nat.reduceAdd, Nat.reduceEqDiff, Nat.reduceLT, Nat.reduceLeDiff, Nat.reduceMul, Nat.reduceSub, reduceIte])))
  · simp -implicitDefEqProofs only [firstRegion]
    rw [keep_40_3]
    simp -implicitDefEqProofs only [W3, ↓D3, ↓DA, ↓DP, ↓DC, Int.reduceToNat, id_eq, Int.reduceBEq, Int.reduceLE, Int.reduceLT, SH, Nat.reduceAdd, Nat.reduceEqDiff, Nat.reduceLT, Nat.reduceLeDiff, Nat.reduceMul, Nat.reduceSub, reduceIte]
  · rfl
theorem five : ∀ a b c d : Bool, a = false ∨ (a = true ∧ b = true) ∨ (a = true ∧ b = false ∧ c = false) ∨ (a = true ∧ b = false ∧ c = true ∧ d = true) ∨ (a = true ∧ b = false ∧ c = true ∧ d = false) := by decide
theorem three : ∀ a b : Bool, a = true ∨ (a = false ∧ b = true) ∨ (a = false ∧ b = false) := by decide
def putIns (f x : Fact) (b : List Fact × Bool) : List Fact × Bool := if (!b.2 && factBefore f x) = true then (b.1 ++ [f], true) else b
def laterF (f x : Fact) : Bool := decide (x.at_ < f.at_) || ((f.at_ == x.at_) && decide (x.until_ < f.until_))
def putX (f x : Fact) : Fact := if (sameClaim f x && laterF f x) = true then f else x
def putF (f : Fact) (b : List Fact × Bool) (x : Fact) : List Fact × Bool := ((putIns f x b).1 ++ [putX f x], sameClaim f x || (putIns f x b).2)
def putStep (f : Fact) (_ : Nat) (x : Fact) (b : List Fact × Bool) : Sum (List Fact × Bool) (List Fact × Bool) := .inr (putF f b x)
theorem putLoop (f : Fact) : ∀ (s : List Fact) (i : Nat) (b : List Fact × Bool), loopL (putStep f) id i s b = s.foldl (putF f) b
  | [], _, _ => rfl
  | x :: r, i, b => by simp -implicitDefEqProofs only [loopL, putStep, List.foldl_cons]; exact putLoop f r (i + 1) _
def putAll (s : List Fact) (f : Fact) : List Fact := if (s.foldl (putF f) ([], false)).2 = true then (s.foldl (putF f) ([], false)).1 else (s.foldl (putF f) ([], false)).1 ++ [f]
def putOk (s : List Fact) (f : Fact) : Bool := isStore s && (isFact f && decide ((putAll s f).length ≤ 30))
def putS (s : List Fact) (f : Fact) : List Fact := if putOk s f = true then putAll s f else s
theorem putS_len {s : List Fact} {f : Fact} (h : s.length ≤ 30) : (putS s f).length ≤ 30 := by
  unfold putS
  split
  · rename_i h1
    unfold putOk at h1
    simp -implicitDefEqProofs only [Bool.and_eq_true, decide_eq_true_eq] at h1
    exact h1.2.2
  · exact h
set_option maxHeartbeats 1000000 in
theorem r_spec_PutFact (k : Nat) (hk : 281474976710656 + 20 ≤ k) (s : List Fact) (hs : s.length ≤ 1000) (f : Fact) :
    run E noExt k 88 [.sl true (s.map (Fact.enc true)), f.enc true] [] = some (.tup [.own 0 false 70 6 ((putS s f).map (Fact.enc true)), .bool (putOk s f)], []) := by
  have c1 := r_spec_IsStore (k - 1) (by omega) s (by omega)
  have c2 := r_spec_IsFact (fl := true) (k - 1) (by omega) f
  have c3 := r_spec_l7Copy (k - 1) (by omega) s (by omega)
  have c4 := fun a b => r_spec_FactBefore (k - 1) (by omega) a b
  have c5 := fun a b => r_spec_SameClaim (k - 1) (by omega) a b
  have hl : s.length ≤ 140737488355328 := by omega
  obtain ⟨k, rfl⟩ : ∃ j, k = j + 1 := ⟨k - 1, by omega⟩
  rw [run_succ rfl rfl, body_eq (nt := 84) (fn := Go.Proofs.Tryz.f88) (by kernel_rfl) rfl rfl rfl rfl rfl rfl rfl rfl]
  simp -implicitDefEqProofs only [Nat.add_sub_cancel, enc_Fact] at c1 c2 c3 c4 c5
  unfold putS putOk
  cases h1 : isStore s
  · simp -implicitDefEqProofs only [W3, ↓D3, ↓DA, ↓DP, ↓DC, h1, enc_Fact, Go.Proofs.Tryz.f88, c1, c3, scals_Fact, SH, Int.reduceToNat, id_eq, Int.reduceBEq, Int.reduceLE, Int.reduceLT, Nat.reduceAdd, Nat.reduceEqDiff, Nat.reduceLT, Nat.reduceLeDiff, Nat.reduceMul, Nat.reduceSub, reduceIte]
  · cases h2 : isFact f
    · simp -implicitDefEqProofs only [W3, ↓D3, ↓DA, ↓DP, ↓DC, h1, h2, enc_Fact, Go.Proofs.Tryz.f88, c1, c2, c3, scals_Fact, SH, Int.reduceToNat, id_eq, Int.reduceBEq, Int.reduceLE, Int.reduceLT, Nat.reduceAdd, Nat.reduceEqDiff, Nat.reduceLT, Nat.reduceLeDiff, Nat.reduceMul, Nat.reduceSub, reduceIte]
    · simp -implicitDefEqProofs only [W3, ↓D3, ↓DA, ↓DP, ↓DC, h1, h2, enc_Fact, Go.Proofs.Tryz.f88, c1, c2, SH, Int.reduceToNat, id_eq, Int.reduceBEq, Int.reduceLE, Int.reduceLT, Nat.reduceAdd, Nat.reduceEqDiff, Nat.reduceLT, Nat.reduceLeDiff, Nat.reduceMul, Nat.reduceSub, reduceIte]
      rw [ev_loop]
      refine Eq.trans (loop_list (Q := fun (R : List Fact × Bool) x => R = s.foldl (putF f) ([], false) → thenEnd E.P [] _ 0 (thenEv E _ _ _ _ _ (outOf 0 x)) = some (.tup [.own 0 false 70 6 ((if (putAll s f).length ≤ 30 then putAll s f else s).map (Fact.enc true)), .bool (decide ((putAll s f).length ≤ 30))], [])) s (putStep f) id
        (fun i b => { sl := [(0, .sl true (s.map (Fact.enc true))), (3, .ptr 0 0), (6, .own 0 false 70 6 (b.1.map (Fact.enc true))), (7, .bool b.2), (8, .int .i64 (i : Nat))], bx := [(0, [.int .i64 f.kind, .int .i64 f.subject, .int .i64 f.value, .int .i64 f.issuer, .int .i64 f.at_, .int .i64 f.until_])], nx := 2, nt := 84 }) (fun i b => b.1.length ≤ 2 * i) ([], false) ?_ ?_ (by omega) (by simp) ?_ (putLoop f s 0 _)) ?_
      · rintro ⟨out, d⟩ hb
        simp only at hb
        have hlt : ¬ ((s.length : Nat) : Int) < ((s.length : Nat) : Int) := by omega
        have hm1 : (out.length + 1) * 48 ≤ 140737488355328 := by omega
        have hm2 : out.length + 1 ≤ 9223372036854775807 := by omega
        have hm9 : out.length ≤ 9223372036854775806 := by omega
        have hpl : plains [.agg [.int .i64 f.kind, .int .i64 f.subject, .int .i64 f.value, .int .i64 f.issuer, .int .i64 f.at_, .int .i64 f.until_]] = true := rfl
        cases d
        · by_cases hlen : out.length + 1 ≤ 30
          · have hgt : ¬ (30 : Int) < ((out.length + 1 : Nat) : Int) := by omega
            simp -implicitDefEqProofs only [W3, ↓D3, ↓DA, ↓DP, ↓DC, QX, hlt, hgt, hm1, hm2, hm9, hpl, List.length_append, scals_Fact, SH, leaf_some, isNormal, Int.reduceToNat, id_eq, Int.reduceBEq, Int.reduceLE, Int.reduceLT, Nat.reduceAdd, Nat.reduceEqDiff, Nat.reduceLT, Nat.reduceLeDiff, Nat.reduceMul, Nat.reduceSub, reduceIte]
            intro hR
            have hp : putAll s f = out ++ [f] := by unfold putAll; rw [← hR]; rfl
            rw [hp]
            simp [hlen, enc_Fact]
          · have hgt : (30 : Int) < ((out.length + 1 : Nat) : Int) := by omega
            simp -implicitDefEqProofs only [W3, ↓D3, ↓DA, ↓DP, ↓DC, QX, hlt, hgt, c3, hm1, hm2, hm9, hpl, List.length_append, scals_Fact, SH, leaf_some, isNormal, Int.reduceToNat, id_eq, Int.reduceBEq, Int.reduceLE, Int.reduceLT, Nat.reduceAdd, Nat.reduceEqDiff, Nat.reduceLT, Nat.reduceLeDiff, Nat.reduceMul, Nat.reduceSub, reduceIte]
            intro hR
            have hp : putAll s f = out ++ [f] := by unfold putAll; rw [← hR]; rfl
            rw [hp]
            simp [hlen]
        · by_cases hlen : out.length ≤ 30
          · have hgt : ¬ (30 : Int) < ((out.length : Nat) : Int) := by omega
            simp -implicitDefEqProofs only [W3, ↓D3, ↓DA, ↓DP, ↓DC, QX, hlt, hgt, scals_Fact, SH, leaf_some, isNormal, Int.reduceToNat, id_eq, Int.reduceBEq, Int.reduceLE, Int.reduceLT, Nat.reduceAdd, Nat.reduceEqDiff, Nat.reduceLT, Nat.reduceLeDiff, Nat.reduceMul, Nat.reduceSub, reduceIte]
            intro hR
            have hp : putAll s f = out := by unfold putAll; rw [← hR]; rfl
            rw [hp]
            simp [hlen]
          · have hgt : (30 : Int) < ((out.length : Nat) : Int) := by omega
            simp -implicitDefEqProofs only [W3, ↓D3, ↓DA, ↓DP, ↓DC, QX, hlt, hgt, c3, scals_Fact, SH, leaf_some, isNormal, Int.reduceToNat, id_eq, Int.reduceBEq, Int.reduceLE, Int.reduceLT, Nat.reduceAdd, Nat.reduceEqDiff, Nat.reduceLT, Nat.reduceLeDiff, Nat.reduceMul, Nat.reduceSub, reduceIte]
            intro hR
            have hp : putAll s f = out := by unfold putAll; rw [← hR]; rfl
            rw [hp]
            simp [hlen]
      · rintro pre x r ⟨out, d⟩ hs' hb
        simp only at hb
        have hpre : pre.length ≤ 1000 := by have := congrArg List.length hs'; rw [List.length_append] at this; omega
        have hout : out.length ≤ 2000 := by omega
        have hb1 : out.length + 1 ≤ 2 * (pre.length + 1) := by omega
        have hb2 : out.length + 1 + 1 ≤ 2 * (pre.length + 1) := by omega
        obtain ⟨hm1, hm2, hm9, hn1, hn2, hn9⟩ : (out.length + 1) * 48 ≤ 140737488355328 ∧ out.length + 1 ≤ 9223372036854775807 ∧ out.length ≤ 9223372036854775806 ∧ (out.length + 1 + 1) * 48 ≤ 140737488355328 ∧ out.length + 1 + 1 ≤ 9223372036854775807 ∧ out.length + 1 ≤ 9223372036854775806 :=
          ⟨by omega, by omega, by omega, by omega, by omega, by omega⟩
        have hx := (at_row hs' hl).1; have hc := (at_row hs' hl).2.1; have hlt := (at_row hs' hl).2.2.1; have hw1 := (at_row hs' hl).2.2.2.1; have hl9 := (at_row hs' hl).2.2.2.2
        clear hs' hpre hout hb
        have hpl : ∀ f : Fact, plains [.agg [.int .i64 f.kind, .int .i64 f.subject, .int .i64 f.value, .int .i64 f.issuer, .int .i64 f.at_, .int .i64 f.until_]] = true := fun _ => rfl
        have d4 := c4 f x
        have d5 := c5 f x
        simp -implicitDefEqProofs only [putStep, putF, putIns, putX, laterF]
        rcases three d (factBefore f x) with rfl | ⟨rfl, hB⟩ | ⟨rfl, hB⟩
        · rcases five (sameClaim f x) (decide (x.at_ < f.at_)) (f.at_ == x.at_) (decide (x.until_ < f.until_)) with hS | ⟨hS, hT⟩ | ⟨hS, hT, hU⟩ | ⟨hS, hT, hU, hV⟩ | ⟨hS, hT, hU, hV⟩
          · rw [hS] at d5
            simp -implicitDefEqProofs only [W3, ↓D3, ↓DA, ↓DP, ↓DC, hS, d5, hx, hlt, hw1, enc_Fact, leaf_some, hm1, hm2, hm9, hn1, hn2, hn9, hb1, hb2, hpl, List.map_append, List.length_append, plan_88_8, keep_88_6, SH, Int.reduceToNat, id_eq, Int.reduceBEq, Int.reduceLE, Int.reduceLT, Nat.reduceAdd, Nat.reduceEqDiff, Nat.reduceLT, Nat.reduceLeDiff, Nat.reduceMul, Nat.reduceSub, reduceIte]
            try trace_state
          · rw [hS] at d5
            simp -implicitDefEqProofs only [W3, ↓D3, ↓DA, ↓DP, ↓DC, hS, hT, d5, hx, hlt, hw1, enc_Fact, leaf_some, hm1, hm2, hm9, hn1, hn2, hn9, hb1, hb2, hpl, List.map_append, List.length_append, plan_88_8, keep_88_6, SH, Int.reduceToNat, id_eq, Int.reduceBEq, Int.reduceLE, Int.reduceLT, Nat.reduceAdd, Nat.reduceEqDiff, Nat.reduceLT, Nat.reduceLeDiff, Nat.reduceMul, Nat.reduceSub, reduceIte]
            try trace_state
          · rw [hS] at d5
            simp -implicitDefEqProofs only [W3, ↓D3, ↓DA, ↓DP, ↓DC, hS, hT, hU, d5, hx, hlt, hw1, enc_Fact, leaf_some, hm1, hm2, hm9, hn1, hn2, hn9, hb1, hb2, hpl, List.map_append, List.length_append, plan_88_8, keep_88_6, SH, Int.reduceToNat, id_eq, Int.reduceBEq, Int.reduceLE, Int.reduceLT, Nat.reduceAdd, Nat.reduceEqDiff, Nat.reduceLT, Nat.reduceLeDiff, Nat.reduceMul, Nat.reduceSub, reduceIte]
            try trace_state
          · rw [hS] at d5
            simp -implicitDefEqProofs only [W3, ↓D3, ↓DA, ↓DP, ↓DC, hS, hT, hU, hV, d5, hx, hlt, hw1, enc_Fact, leaf_some, hm1, hm2, hm9, hn1, hn2, hn9, hb1, hb2, hpl, List.map_append, List.length_append, plan_88_8, keep_88_6, SH, Int.reduceToNat, id_eq, Int.reduceBEq, Int.reduceLE, Int.reduceLT, Nat.reduceAdd, Nat.reduceEqDiff, Nat.reduceLT, Nat.reduceLeDiff, Nat.reduceMul, Nat.reduceSub, reduceIte]
            try trace_state
          · rw [hS] at d5
            simp -implicitDefEqProofs only [W3, ↓D3, ↓DA, ↓DP, ↓DC, hS, hT, hU, hV, d5, hx, hlt, hw1, enc_Fact, leaf_some, hm1, hm2, hm9, hn1, hn2, hn9, hb1, hb2, hpl, List.map_append, List.length_append, plan_88_8, keep_88_6, SH, Int.reduceToNat, id_eq, Int.reduceBEq, Int.reduceLE, Int.reduceLT, Nat.reduceAdd, Nat.reduceEqDiff, Nat.reduceLT, Nat.reduceLeDiff, Nat.reduceMul, Nat.reduceSub, reduceIte]
            try trace_state
        · rcases five (sameClaim f x) (decide (x.at_ < f.at_)) (f.at_ == x.at_) (decide (x.until_ < f.until_)) with hS | ⟨hS, hT⟩ | ⟨hS, hT, hU⟩ | ⟨hS, hT, hU, hV⟩ | ⟨hS, hT, hU, hV⟩
          all_goals rw [hB] at d4
          · rw [hS] at d5
            simp -implicitDefEqProofs only [W3, ↓D3, ↓DA, ↓DP, ↓DC, hS, hB, d5, d4, hx, hlt, hw1, enc_Fact, leaf_some, hm1, hm2, hm9, hn1, hn2, hn9, hb1, hb2, hpl, List.map_append, List.length_append, plan_88_8, keep_88_6, SH, Int.reduceToNat, id_eq, Int.reduceBEq, Int.reduceLE, Int.reduceLT, Nat.reduceAdd, Nat.reduceEqDiff, Nat.reduceLT, Nat.reduceLeDiff, Nat.reduceMul, Nat.reduceSub, reduceIte]
            try trace_state
          · rw [hS] at d5
            simp -implicitDefEqProofs only [W3, ↓D3, ↓DA, ↓DP, ↓DC, hS, hT, hB, d5, d4, hx, hlt, hw1, enc_Fact, leaf_some, hm1, hm2, hm9, hn1, hn2, hn9, hb1, hb2, hpl, List.map_append, List.length_append, plan_88_8, keep_88_6, SH, Int.reduceToNat, id_eq, Int.reduceBEq, Int.reduceLE, Int.reduceLT, Nat.reduceAdd, Nat.reduceEqDiff, Nat.reduceLT, Nat.reduceLeDiff, Nat.reduceMul, Nat.reduceSub, reduceIte]
            try trace_state
          · rw [hS] at d5
            simp -implicitDefEqProofs only [W3, ↓D3, ↓DA, ↓DP, ↓DC, hS, hT, hU, hB, d5, d4, hx, hlt, hw1, enc_Fact, leaf_some, hm1, hm2, hm9, hn1, hn2, hn9, hb1, hb2, hpl, List.map_append, List.length_append, plan_88_8, keep_88_6, SH, Int.reduceToNat, id_eq, Int.reduceBEq, Int.reduceLE, Int.reduceLT, Nat.reduceAdd, Nat.reduceEqDiff, Nat.reduceLT, Nat.reduceLeDiff, Nat.reduceMul, Nat.reduceSub, reduceIte]
            try trace_state
          · rw [hS] at d5
            simp -implicitDefEqProofs only [W3, ↓D3, ↓DA, ↓DP, ↓DC, hS, hT, hU, hV, hB, d5, d4, hx, hlt, hw1, enc_Fact, leaf_some, hm1, hm2, hm9, hn1, hn2, hn9, hb1, hb2, hpl, List.map_append, List.length_append, plan_88_8, keep_88_6, SH, Int.reduceToNat, id_eq, Int.reduceBEq, Int.reduceLE, Int.reduceLT, Nat.reduceAdd, Nat.reduceEqDiff, Nat.reduceLT, Nat.reduceLeDiff, Nat.reduceMul, Nat.reduceSub, reduceIte]
            try trace_state
          · rw [hS] at d5
            simp -implicitDefEqProofs only [W3, ↓D3, ↓DA, ↓DP, ↓DC, hS, hT, hU, hV, hB, d5, d4, hx, hlt, hw1, enc_Fact, leaf_some, hm1, hm2, hm9, hn1, hn2, hn9, hb1, hb2, hpl, List.map_append, List.length_append, plan_88_8, keep_88_6, SH, Int.reduceToNat, id_eq, Int.reduceBEq, Int.reduceLE, Int.reduceLT, Nat.reduceAdd, Nat.reduceEqDiff, Nat.reduceLT, Nat.reduceLeDiff, Nat.reduceMul, Nat.reduceSub, reduceIte]
            try trace_state
        · rcases five (sameClaim f x) (decide (x.at_ < f.at_)) (f.at_ == x.at_) (decide (x.until_ < f.until_)) with hS | ⟨hS, hT⟩ | ⟨hS, hT, hU⟩ | ⟨hS, hT, hU, hV⟩ | ⟨hS, hT, hU, hV⟩
          all_goals rw [hB] at d4
          · rw [hS] at d5
            simp -implicitDefEqProofs only [W3, ↓D3, ↓DA, ↓DP, ↓DC, hS, hB, d5, d4, hx, hlt, hw1, enc_Fact, leaf_some, hm1, hm2, hm9, hn1, hn2, hn9, hb1, hb2, hpl, List.map_append, List.length_append, plan_88_8, keep_88_6, SH, Int.reduceToNat, id_eq, Int.reduceBEq, Int.reduceLE, Int.reduceLT, Nat.reduceAdd, Nat.reduceEqDiff, Nat.reduceLT, Nat.reduceLeDiff, Nat.reduceMul, Nat.reduceSub, reduceIte]
            try trace_state
          · rw [hS] at d5
            simp -implicitDefEqProofs only [W3, ↓D3, ↓DA, ↓DP, ↓DC, hS, hT, hB, d5, d4, hx, hlt, hw1, enc_Fact, leaf_some, hm1, hm2, hm9, hn1, hn2, hn9, hb1, hb2, hpl, List.map_append, List.length_append, plan_88_8, keep_88_6, SH, Int.reduceToNat, id_eq, Int.reduceBEq, Int.reduceLE, Int.reduceLT, Nat.reduceAdd, Nat.reduceEqDiff, Nat.reduceLT, Nat.reduceLeDiff, Nat.reduceMul, Nat.reduceSub, reduceIte]
            try trace_state
          · rw [hS] at d5
            simp -implicitDefEqProofs only [W3, ↓D3, ↓DA, ↓DP, ↓DC, hS, hT, hU, hB, d5, d4, hx, hlt, hw1, enc_Fact, leaf_some, hm1, hm2, hm9, hn1, hn2, hn9, hb1, hb2, hpl, List.map_append, List.length_append, plan_88_8, keep_88_6, SH, Int.reduceToNat, id_eq, Int.reduceBEq, Int.reduceLE, Int.reduceLT, Nat.reduceAdd, Nat.reduceEqDiff, Nat.reduceLT, Nat.reduceLeDiff, Nat.reduceMul, Nat.reduceSub, reduceIte]
            try trace_state
          · rw [hS] at d5
            simp -implicitDefEqProofs only [W3, ↓D3, ↓DA, ↓DP, ↓DC, hS, hT, hU, hV, hB, d5, d4, hx, hlt, hw1, enc_Fact, leaf_some, hm1, hm2, hm9, hn1, hn2, hn9, hb1, hb2, hpl, List.map_append, List.length_append, plan_88_8, keep_88_6, SH, Int.reduceToNat, id_eq, Int.reduceBEq, Int.reduceLE, Int.reduceLT, Nat.reduceAdd, Nat.reduceEqDiff, Nat.reduceLT, Nat.reduceLeDiff, Nat.reduceMul, Nat.reduceSub, reduceIte]
            try trace_state
          · rw [hS] at d5
            simp -implicitDefEqProofs only [W3, ↓D3, ↓DA, ↓DP, ↓DC, hS, hT, hU, hV, hB, d5, d4, hx, hlt, hw1, enc_Fact, leaf_some, hm1, hm2, hm9, hn1, hn2, hn9, hb1, hb2, hpl, List.map_append, List.length_append, plan_88_8, keep_88_6, SH, Int.reduceToNat, id_eq, Int.reduceBEq, Int.reduceLE, Int.reduceLT, Nat.reduceAdd, Nat.reduceEqDiff, Nat.reduceLT, Nat.reduceLeDiff, Nat.reduceMul, Nat.reduceSub, reduceIte]
            try trace_state
      · simp -implicitDefEqProofs only [firstRegion]
        rw [keep_88_6]
        simp -implicitDefEqProofs only [W3, ↓D3, ↓DA, ↓DP, ↓DC, Int.reduceToNat, id_eq, Int.reduceBEq, Int.reduceLE, Int.reduceLT, SH, Nat.reduceAdd, Nat.reduceEqDiff, Nat.reduceLT, Nat.reduceLeDiff, Nat.reduceMul, Nat.reduceSub, reduceIte]
      · rfl
end Go.Proofs.YtaojmienjikfbaaGreatDoor.Flat
