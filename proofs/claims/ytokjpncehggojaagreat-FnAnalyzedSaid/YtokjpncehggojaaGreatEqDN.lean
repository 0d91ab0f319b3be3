/-
Facts put into stores: the reference.
-/
import Derived.Test.YtokjpncehggojaaGreatEqDS
import Derived.Test.YtokjpncehggojaaGreatEqYM
import Derived.Test.YtokjpncehggojaaGreatEqIOB
set_option linter.unusedVariables false
set_option linter.unusedSimpArgs false
set_option maxRecDepth 10000
namespace Go.Proofs.YtokjpncehggojaaGreat.Flat
section
variable {P : Program} {st : St}
theorem resultsOf_two {r s : ResultVar} {rs : List ResultVar} {vs : List AV} (h : resultsOf P st (r :: s :: rs) = some vs) : ∃ v u us, vs = v :: u :: us := by
  simp -implicitDefEqProofs only [resultsOf] at h
  obtain ⟨v, _, h⟩ := Option.bind_eq_some_iff.1 h
  obtain ⟨ws, h1, rfl⟩ := Option.map_eq_some_iff.1 h
  obtain ⟨u, _, h1⟩ := Option.bind_eq_some_iff.1 h1
  obtain ⟨us, _, rfl⟩ := Option.map_eq_some_iff.1 h1
  exact ⟨v, u, us, rfl⟩
theorem finish_many0 {r s : ResultVar} {rs : List ResultVar} : finish P [] (r :: s :: rs) 0 st = (resultsOf P st (r :: s :: rs)).bind fun vs => finV (.tup vs) := by
  cases h : resultsOf P st (r :: s :: rs) with
  | none => unfold finish; simp -implicitDefEqProofs only [h]; rfl
  | some vs =>
    obtain ⟨v, u, us, rfl⟩ := resultsOf_two h
    simp -implicitDefEqProofs only [Option.bind_some]
    have := finW_eq (st := st) (v := .tup (v :: u :: us))
    unfold finish
    simp -implicitDefEqProofs only [h, Option.bind_some]
    exact this
theorem finish_many1 {m : Mode} {md : List Mode} {r s : ResultVar} {rs : List ResultVar} (hm : mutSlots 0 (m :: md) = []) : finish P (m :: md) (r :: s :: rs) 1 st = (resultsOf P st (r :: s :: rs)).bind fun vs => finI st (.tup vs) := by
  cases h : resultsOf P st (r :: s :: rs) with
  | none => unfold finish; simp -implicitDefEqProofs only [h]; rfl
  | some vs =>
    obtain ⟨v, u, us, rfl⟩ := resultsOf_two h
    simp -implicitDefEqProofs only [Option.bind_some]
    rw [← finI_eq (fun _ _ => by simp)]
    unfold finish
    simp -implicitDefEqProofs only [h, hm, Option.bind_some]
    rfl
theorem finish_manyI {r s : ResultVar} {rs : List ResultVar} : finish P [.io] (r :: s :: rs) 1 st = (resultsOf P st (r :: s :: rs)).bind fun vs => finI st (.tup vs) := finish_many1 rfl
end
def factBefore (a b : Fact) : Bool :=
  if (!(a.kind == b.kind)) = true then decide (a.kind < b.kind) else if (!(a.subject == b.subject)) = true then decide (a.subject < b.subject) else if (!(a.value == b.value)) = true then decide (a.value < b.value) else decide (a.issuer < b.issuer)
theorem r_spec_FactBefore (k : Nat) (hk : 281474976710656 + 1 ≤ k) (a b : Fact) : run E noExt k 80 [a.enc true, b.enc true] [] = some (.bool (factBefore a b), []) := by
  obtain ⟨k, rfl⟩ : ∃ j, k = j + 1 := ⟨k - 1, by omega⟩
  rw [run_succ rfl rfl, body_eq (nt := 40) (fn := Go.Proofs.Tryz.f80) (by kernel_rfl) rfl rfl rfl rfl rfl rfl rfl rfl]
  unfold factBefore
  cases h1 : a.kind == b.kind <;> cases h2 : a.subject == b.subject <;> cases h3 : a.value == b.value
  all_goals
    simp -implicitDefEqProofs only [W1, ↓D1, ↓DC, enc_Fact, h1, h2, h3, Go.Proofs.Tryz.f80, bne, Int.reduceToNat, id_eq, Int.reduceBEq, Int.reduceLE, Int.reduceLT, Nat.reduceAdd, Nat.reduceEqDiff, Nat.reduceLT, Nat.reduceLeDiff, Nat.reduceMul, Nat.reduceSub, reduceIte]
def sameClaim (a b : Fact) : Bool := ((a.kind == b.kind) && (a.subject == b.subject)) && (a.value == b.value) && (a.issuer == b.issuer)
theorem r_spec_SameClaim (k : Nat) (hk : 281474976710656 + 1 ≤ k) (a b : Fact) : run E noExt k 81 [a.enc true, b.enc true] [] = some (.bool (sameClaim a b), []) := by
  obtain ⟨k, rfl⟩ : ∃ j, k = j + 1 := ⟨k - 1, by omega⟩
  rw [run_succ rfl rfl, body_eq (nt := 31) (fn := Go.Proofs.Tryz.f81) (by kernel_rfl) rfl rfl rfl rfl rfl rfl rfl rfl]
  unfold sameClaim
  cases h1 : a.kind == b.kind <;> cases h2 : a.subject == b.subject <;> cases h3 : a.value == b.value
  all_goals
    simp -implicitDefEqProofs only [W1, ↓D1, ↓DC, enc_Fact, h1, h2, h3, Go.Proofs.Tryz.f81, bne, Int.reduceToNat, id_eq, Int.reduceBEq, Int.reduceLE, Int.reduceLT, Nat.reduceAdd, Nat.reduceEqDiff, Nat.reduceLT, Nat.reduceLeDiff, Nat.reduceMul, Nat.reduceSub, reduceIte]
def goesOn (l : List Fact) (i : Nat) (e : Fact) : Bool := decide (i = 0) || factBefore (l.getD (i - 1) default) e
def storeStep (l : List Fact) (i : Nat) (e : Fact) (_ : Unit) : Sum Bool Unit := if (isFact e && goesOn l i e) = true then .inr () else .inl false
def isStore (l : List Fact) : Bool := loopL (storeStep l) (fun _ => decide ((l.length : Int) ≤ 30)) 0 l ()
theorem prevF_at {l pre r : List Fact} {e : Fact} (h : l = pre ++ e :: r) (hl : l.length ≤ 140737488355328) (hp : pre.length ≠ 0) :
    IntKind.i64.wrap ((pre.length : Int) - 1) = ((pre.length - 1 : Nat) : Int) ∧ l[pre.length - 1]? = some (l.getD (pre.length - 1) default) ∧ ((0 : Int) < (pre.length : Int)) ∧ (0 : Int) ≤ ((pre.length - 1 : Nat) : Int) := by
  have h1 := (at_row h hl).2.2.2.2
  refine ⟨by rw [IntWalk.i64_in _ (by omega)]; omega, ?_, by omega, by omega⟩
  rw [List.getD_eq_getElem?_getD, List.getElem?_eq_getElem (by omega)]
  rfl
theorem r_spec_IsStore (k : Nat) (hk : 281474976710656 + 10 ≤ k) (l : List Fact) (hl : l.length ≤ 140737488355328) : run E noExt k 77 [.sl true (l.map (Fact.enc true))] [] = some (.bool (isStore l), []) := by
  have c1 := fun e => r_spec_IsFact (fl := true) (k - 1) (by omega) e
  have c3 := fun a b => r_spec_FactBefore (k - 1) (by omega) a b
  obtain ⟨k, rfl⟩ : ∃ j, k = j + 1 := ⟨k - 1, by omega⟩
  rw [run_succ rfl rfl, body_eq (nt := 36) (fn := Go.Proofs.Tryz.f77) (by kernel_rfl) rfl rfl rfl rfl rfl rfl rfl rfl]
  simp -implicitDefEqProofs only [Nat.add_sub_cancel, enc_Fact] at c1 c3
  simp -implicitDefEqProofs only [W1, ↓D1, ↓DC, Go.Proofs.Tryz.f77, Int.reduceToNat, id_eq, Int.reduceBEq, Int.reduceLE, Int.reduceLT, Nat.reduceAdd, Nat.reduceEqDiff, Nat.reduceLT, Nat.reduceLeDiff, Nat.reduceMul, Nat.reduceSub, reduceIte]
  have fl : Bool := true
  rw [ev_loop]
  refine Eq.trans (loop_list (Q := fun g x => thenEnd E.P [] _ 0 (thenEv E _ _ _ _ _ (outOf 0 x)) = some (.bool g, [])) (l) (storeStep l) (fun _ => decide ((l.length : Int) ≤ 30))
    (fun i b => { sl := [(0, .sl true (l.map (Fact.enc true))), (3, .int .i64 (i : Nat))], bx := [], nx := 0, nt := 36 }) (fun _ _ => True) (()) ?_ ?_ (by first | omega | (simp; omega)) (trivial) ?_) ?_
  · intro b hb
    simp -implicitDefEqProofs only [W2, ↓D2, ↓DC, QX, leaf_some, isNormal, Int.reduceToNat, id_eq, Int.reduceBEq, Int.reduceLE, Int.reduceLT, Nat.reduceAdd, Nat.reduceEqDiff, Nat.reduceLT, Nat.reduceLeDiff, Nat.reduceMul, Nat.reduceSub, reduceIte]
    repeat' (split <;> (rename_i h; (try simp -implicitDefEqProofs only [Bool.not_eq_true', Bool.not_eq_false', decide_eq_true_eq, decide_eq_false_iff_not] at h); (try simp -implicitDefEqProofs only [W2, ↓D2, ↓DC, QX, *, leaf_some, isNormal, Int.reduceToNat, id_eq, Int.reduceBEq, Int.reduceLE, Int.reduceLT, Nat.reduceAdd, Nat.reduceEqDiff, Nat.reduceLT, Nat.reduceLeDiff, Nat.reduceMul, Nat.reduceSub, reduceIte])))
  · intro pre e r b hs' hb
    have hx := (at_row hs' hl).1; have hc := (at_row hs' hl).2.1; have hlt := (at_row hs' hl).2.2.1; have hw1 := (at_row hs' hl).2.2.2.1; have hl9 := (at_row hs' hl).2.2.2.2
    have c2 := c1 e
    have hst : goesOn l pre.length e = (decide (pre.length = 0) || factBefore (l.getD (pre.length - 1) default) e) := rfl
    by_cases h0 : pre.length = 0
    · have hd : decide (pre.length = 0) = true := by simp [h0]
      have hg0 : decide ((0 : Int) < (pre.length : Int)) = false := by simp [h0]
      clear hs'
      generalize hv : isFact e = v at c2
      cases v <;> simp -implicitDefEqProofs only [hd, Bool.true_or] at hst
      all_goals
        simp -implicitDefEqProofs only [W2, ↓D2, ↓DC, QX, enc_Fact, hx, hlt, hw1, c2, hg0, hv, hst, storeStep, plan_77_4, keep_77_2, leaf_some, isNormal, Int.reduceToNat, id_eq, Int.reduceBEq, Int.reduceLE, Int.reduceLT, Nat.reduceAdd, Nat.reduceEqDiff, Nat.reduceLT, Nat.reduceLeDiff, Nat.reduceMul, Nat.reduceSub, reduceIte]
        repeat' (split <;> (rename_i h; (try simp -implicitDefEqProofs only [Bool.not_eq_true', Bool.not_eq_false', decide_eq_true_eq, decide_eq_false_iff_not] at h); (try simp -implicitDefEqProofs only [W2, ↓D2, ↓DC, QX, *, enc_Fact, hx, hlt, hw1, c2, hg0, hv, hst, storeStep, plan_77_4, keep_77_2, leaf_some, isNormal, Int.reduceToNat, id_eq, Int.reduceBEq, Int.reduceLE, Int.reduceLT, Nat.reduceAdd, Nat.reduceEqDiff, Nat.reduceLT, Nat.reduceLeDiff, Nat.reduceMul, Nat.reduceSub, reduceIte])))
    · obtain ⟨f1, f2, f3, f4⟩ := prevF_at hs' hl h0
      have hd : decide (pre.length = 0) = false := by simp [h0]
      have hg0 : decide ((0 : Int) < (pre.length : Int)) = true := by simp -implicitDefEqProofs only [decide_eq_true_eq]; exact f3
      have c4 := c3 (l.getD (pre.length - 1) default) e
      have hlt1 : ((pre.length - 1 : Nat) : Int) < (l.length : Int) := by omega
      clear hs'
      generalize hv : isFact e = v at c2
      generalize factBefore (l.getD (pre.length - 1) default) e = p1 at hst c4
      cases v <;> cases p1 <;> simp -implicitDefEqProofs only [hd, Bool.false_or, Bool.and_true, Bool.and_false, Bool.not_true, Bool.not_false] at hst
      all_goals
        simp -implicitDefEqProofs only [W2, ↓D2, ↓DC, QX, enc_Fact, hx, hlt, hlt1, hw1, c2, c4, hg0, f1, f2, f4, hv, hst, storeStep, plan_77_4, keep_77_2, leaf_some, isNormal, Int.reduceToNat, id_eq, Int.reduceBEq, Int.reduceLE, Int.reduceLT, Nat.reduceAdd, Nat.reduceEqDiff, Nat.reduceLT, Nat.reduceLeDiff, Nat.reduceMul, Nat.reduceSub, reduceIte]
        repeat' (split <;> (rename_i h; (try simp -implicitDefEqProofs only [Bool.not_eq_true', Bool.not_eq_false', decide_eq_true_eq, decide_eq_false_iff_not] at h); (try simp -implicitDefEqProofs only [W2, ↓D2, ↓DC, QX, *, enc_Fact, hx, hlt, hlt1, hw1, c2, c4, hg0, f1, f2, f4, hv, hst, storeStep, plan_77_4, keep_77_2, leaf_some, isNormal, Int.reduceToNat, id_eq, Int.reduceBEq, Int.reduceLE, Int.reduceLT, Nat.reduceAdd, Nat.reduceEqDiff, Nat.reduceLT, Nat.reduceLeDiff, Nat.reduceMul, Nat.reduceSub, reduceIte])))
  · simp -implicitDefEqProofs only [firstRegion]; rw [keep_77_2]; simp -implicitDefEqProofs only [W2, ↓D2, ↓DC, Int.reduceToNat, id_eq, Int.reduceBEq, Int.reduceLE, Int.reduceLT, Nat.reduceAdd, Nat.reduceEqDiff, Nat.reduceLT, Nat.reduceLeDiff, Nat.reduceMul, Nat.reduceSub, reduceIte]; first | done | rfl
  · rfl
theorem cells_facts (l : List Fact) : ((l.map (Fact.enc true)).all fun y => decide (y.cells.length = 6)) = true := by
  rw [List.all_eq_true]
  intro y hy
  obtain ⟨c, _, rfl⟩ := List.mem_map.1 hy
  rfl
theorem plains_facts (l : List Fact) : plains (l.map (Fact.enc true)) = true := by
  unfold plains
  rw [List.all_eq_true]
  intro y hy
  obtain ⟨c, _, rfl⟩ := List.mem_map.1 hy
  rfl
theorem append_facts {t u id nid : Nat} {l : List Fact} {dst : Option Nat} {st : St} (htu : t = 25) (hu : u = t) (ht : st.tree = false) (hl : l.length ≤ 1048576) :
    evAppend E.P t u (.own id false 92 6 []) (.sl true (l.map (Fact.enc true))) nid dst st = (st.scrub [id]).put dst (.own nid false 92 6 (l.map (Fact.enc true))) := by
  subst hu
  subst htu
  have hm1 : l.length * 48 ≤ 140737488355328 := by omega
  have hm2 : l.length ≤ 9223372036854775807 := by omega
  have h1 := cells_facts l
  have h2 := plains_facts l
  simp -implicitDefEqProofs only [evAppend, rowOf, TIS, Option.bind_some, h1, h2, zeroOK, spent, List.length_map, List.length_nil, List.nil_append, Nat.zero_add, ht, hm1, hm2, List.not_mem_nil, not_false_eq_true, and_self, if_true, true_and, or_true]
  rw [if_pos]
  exact ⟨by decide, rfl, trivial⟩
theorem r_spec_l7Copy (k : Nat) (hk : 281474976710656 + 1 ≤ k) (l : List Fact) (hl : l.length ≤ 1048576) : run E noExt k 79 [.sl true (l.map (Fact.enc true))] [] = some (.own 0 false 92 6 (l.map (Fact.enc true)), []) := by
  obtain ⟨k, rfl⟩ : ∃ j, k = j + 1 := ⟨k - 1, by omega⟩
  rw [run_succ rfl rfl, body_eq (nt := 6) (fn := Go.Proofs.Tryz.f79) (by kernel_rfl) rfl rfl rfl rfl rfl rfl rfl rfl]
  simp -implicitDefEqProofs only [W3, ↓D3, ↓DP, ↓DC, hl, append_facts, Go.Proofs.Tryz.f79, SH, Int.reduceToNat, id_eq, Int.reduceBEq, Int.reduceLE, Int.reduceLT, Nat.reduceAdd, Nat.reduceEqDiff, Nat.reduceLT, Nat.reduceLeDiff, Nat.reduceMul, Nat.reduceSub, reduceIte]
  try trace_state
theorem scals_Fact (m : List Fact) : AV.scals (m.map (Fact.enc true)) = true := by
  induction m with
  | nil => rfl
  | cons b m ih => simpa [AV.scals, AV.scal, enc_Fact] using ih
theorem five : ∀ a b c d : Bool, a = false ∨ (a = true ∧ b = true) ∨ (a = true ∧ b = false ∧ c = false) ∨ (a = true ∧ b = false ∧ c = true ∧ d = true) ∨ (a = true ∧ b = false ∧ c = true ∧ d = false) := by decide
theorem three : ∀ a b : Bool, a = true ∨ (a = false ∧ b = true) ∨ (a = false ∧ b = false) := by decide
def putIns (f x : Fact) (b : List Fact × Bool) : List Fact × Bool := if (!b.2 && factBefore f x) = true then (b.1 ++ [f], true) else b
def laterF (f x : Fact) : Bool := decide (x.at_ < f.at_) || ((f.at_ == x.at_) && decide (x.until_ < f.until_))
def putX (f x : Fact) : Fact := if (sameClaim f x && laterF f x) = true then f else x
def putF (f : Fact) (b : List Fact × Bool) (x : Fact) : List Fact × Bool := ((putIns f x b).1 ++ [putX f x], sameClaim f x || (putIns f x b).2)
def putStep (f : Fact) (_ : Nat) (x : Fact) (b : List Fact × Bool) : Sum (List Fact × Bool) (List Fact × Bool) := .inr (putF f b x)
theorem putLoop (f : Fact) : ∀ (s : List Fact) (i : Nat) (b : List Fact × Bool), loopL (putStep f) id i s b = s.foldl (putF f) b
  | [], _, _ => rfl
  | x :: r, i, b => by simp -implicitDefEqProofs only [loopL, putStep, List.foldl_cons]; exact putLoop f r (i + 1) _
def putAll (s : List Fact) (f : Fact) : List Fact := if (s.foldl (putF f) ([], false)).2 = true then (s.foldl (putF f) ([], false)).1 else (s.foldl (putF f) ([], false)).1 ++ [f]
def putOk (s : List Fact) (f : Fact) : Bool := isStore s && (isFact f && decide ((putAll s f).length ≤ 30))
def putS (s : List Fact) (f : Fact) : List Fact := if putOk s f = true then putAll s f else s
theorem putS_len {s : List Fact} {f : Fact} (h : s.length ≤ 30) : (putS s f).length ≤ 30 := by
  unfold putS
  split
  · rename_i h1
    unfold putOk at h1
    simp -implicitDefEqProofs only [Bool.and_eq_true, decide_eq_true_eq] at h1
    exact h1.2.2
  · exact h
set_option maxHeartbeats 1000000 in
theorem r_spec_PutFact (k : Nat) (hk : 281474976710656 + 20 ≤ k) (s : List Fact) (hs : s.length ≤ 1000) (f : Fact) :
    run E noExt k 50 [.sl true (s.map (Fact.enc true)), f.enc true] [] = some (.tup [.own 0 false 92 6 ((putS s f).map (Fact.enc true)), .bool (putOk s f)], []) := by
  have c1 := r_spec_IsStore (k - 1) (by omega) s (by omega)
  have c2 := r_spec_IsFact (fl := true) (k - 1) (by omega) f
  have c3 := r_spec_l7Copy (k - 1) (by omega) s (by omega)
  have c4 := fun a b => r_spec_FactBefore (k - 1) (by omega) a b
  have c5 := fun a b => r_spec_SameClaim (k - 1) (by omega) a b
  have hl : s.length ≤ 140737488355328 := by omega
  obtain ⟨k, rfl⟩ : ∃ j, k = j + 1 := ⟨k - 1, by omega⟩
  rw [run_succ rfl rfl, body_eq (nt := 84) (fn := Go.Proofs.Tryz.f50) (by kernel_rfl) rfl rfl rfl rfl rfl rfl rfl rfl]
  simp -implicitDefEqProofs only [Nat.add_sub_cancel, enc_Fact] at c1 c2 c3 c4 c5
  unfold putS putOk
  cases h1 : isStore s
  · simp -implicitDefEqProofs only [W3, ↓D3, ↓DA, ↓DP, ↓DC, h1, enc_Fact, Go.Proofs.Tryz.f50, c1, c3, scals_Fact, SH, Int.reduceToNat, id_eq, Int.reduceBEq, Int.reduceLE, Int.reduceLT, Nat.reduceAdd, Nat.reduceEqDiff, Nat.reduceLT, Nat.reduceLeDiff, Nat.reduceMul, Nat.reduceSub, reduceIte]
  · cases h2 : isFact f
    · simp -implicitDefEqProofs only [W3, ↓D3, ↓DA, ↓DP, ↓DC, h1, h2, enc_Fact, Go.Proofs.Tryz.f50, c1, c2, c3, scals_Fact, SH, Int.reduceToNat, id_eq, Int.reduceBEq, Int.reduceLE, Int.reduceLT, Nat.reduceAdd, Nat.reduceEqDiff, Nat.reduceLT, Nat.reduceLeDiff, Nat.reduceMul, Nat.reduceSub, reduceIte]
    · simp -implicitDefEqProofs only [W3, ↓D3, ↓DA, ↓DP, ↓DC, h1, h2, enc_Fact, Go.Proofs.Tryz.f50, c1, c2, SH, Int.reduceToNat, id_eq, Int.reduceBEq, Int.reduceLE, Int.reduceLT, Nat.reduceAdd, Nat.reduceEqDiff, Nat.reduceLT, Nat.reduceLeDiff, Nat.reduceMul, Nat.reduceSub, reduceIte]
      rw [ev_loop]
      refine Eq.trans (loop_list (Q := fun (R : List Fact × Bool) x => R = s.foldl (putF f) ([], false) → thenEnd E.P [] _ 0 (thenEv E _ _ _ _ _ (outOf 0 x)) = some (.tup [.own 0 false 92 6 ((if (putAll s f).length ≤ 30 then putAll s f else s).map (Fact.enc true)), .bool (decide ((putAll s f).length ≤ 30))], [])) s (putStep f) id
        (fun i b => { sl := [(0, .sl true (s.map (Fact.enc true))), (3, .ptr 0 0), (6, .own 0 false 92 6 (b.1.map (Fact.enc true))), (7, .bool b.2), (8, .int .i64 (i : Nat))], bx := [(0, [.int .i64 f.kind, .int .i64 f.subject, .int .i64 f.value, .int .i64 f.issuer, .int .i64 f.at_, .int .i64 f.until_])], nx := 2, nt := 84 }) (fun i b => b.1.length ≤ 2 * i) ([], false) ?_ ?_ (by omega) (by simp) ?_ (putLoop f s 0 _)) ?_
      · rintro ⟨out, d⟩ hb
        simp only at hb
        have hlt : ¬ ((s.length : Nat) : Int) < ((s.length : Nat) : Int) := by omega
        have hm1 : (out.length + 1) * 48 ≤ 140737488355328 := by omega
        have hm2 : out.length + 1 ≤ 9223372036854775807 := by omega
        have hm9 : out.length ≤ 9223372036854775806 := by omega
        have hpl : plains [.agg [.int .i64 f.kind, .int .i64 f.subject, .int .i64 f.value, .int .i64 f.issuer, .int .i64 f.at_, .int .i64 f.until_]] = true := rfl
        cases d
        · by_cases hlen : out.length + 1 ≤ 30
          · have hgt : ¬ (30 : Int) < ((out.length + 1 : Nat) : Int) := by omega
            simp -implicitDefEqProofs only [W3, ↓D3, ↓DA, ↓DP, ↓DC, QX, hlt, hgt, hm1, hm2, hm9, hpl, List.length_append, scals_Fact, SH, leaf_some, isNormal, Int.reduceToNat, id_eq, Int.reduceBEq, Int.reduceLE, Int.reduceLT, Nat.reduceAdd, Nat.reduceEqDiff, Nat.reduceLT, Nat.reduceLeDiff, Nat.reduceMul, Nat.reduceSub, reduceIte]
            intro hR
            have hp : putAll s f = out ++ [f] := by unfold putAll; rw [← hR]; rfl
            rw [hp]
            simp [hlen, enc_Fact]
          · have hgt : (30 : Int) < ((out.length + 1 : Nat) : Int) := by omega
            simp -implicitDefEqProofs only [W3, ↓D3, ↓DA, ↓DP, ↓DC, QX, hlt, hgt, c3, hm1, hm2, hm9, hpl, List.length_append, scals_Fact, SH, leaf_some, isNormal, Int.reduceToNat, id_eq, Int.reduceBEq, Int.reduceLE, Int.reduceLT, Nat.reduceAdd, Nat.reduceEqDiff, Nat.reduceLT, Nat.reduceLeDiff, Nat.reduceMul, Nat.reduceSub, reduceIte]
            intro hR
            have hp : putAll s f = out ++ [f] := by unfold putAll; rw [← hR]; rfl
            rw [hp]
            simp [hlen]
        · by_cases hlen : out.length ≤ 30
          · have hgt : ¬ (30 : Int) < ((out.length : Nat) : Int) := by omega
            simp -implicitDefEqProofs only [W3, ↓D3, ↓DA, ↓DP, ↓DC, QX, hlt, hgt, scals_Fact, SH, leaf_some, isNormal, Int.reduceToNat, id_eq, Int.reduceBEq, Int.reduceLE, Int.reduceLT, Nat.reduceAdd, Nat.reduceEqDiff, Nat.reduceLT, Nat.reduceLeDiff, Nat.reduceMul, Nat.reduceSub, reduceIte]
            intro hR
            have hp : putAll s f = out := by unfold putAll; rw [← hR]; rfl
            rw [hp]
            simp [hlen]
          · have hgt : (30 : Int) < ((out.length : Nat) : Int) := by omega
            simp -implicitDefEqProofs only [W3, ↓D3, ↓DA, ↓DP, ↓DC, QX, hlt, hgt, c3, scals_Fact, SH, leaf_some, isNormal, Int.reduceToNat, id_eq, Int.reduceBEq, Int.reduceLE, Int.reduceLT, Nat.reduceAdd, Nat.reduceEqDiff, Nat.reduceLT, Nat.reduceLeDiff, Nat.reduceMul, Nat.reduceSub, reduceIte]
            intro hR
            have hp : putAll s f = out := by unfold putAll; rw [← hR]; rfl
            rw [hp]
            simp [hlen]
      · rintro pre x r ⟨out, d⟩ hs' hb
        simp only at hb
        have hpre : pre.length ≤ 1000 := by have := congrArg List.length hs'; rw [List.length_append] at this; omega
        have hout : out.length ≤ 2000 := by omega
        have hb1 : out.length + 1 ≤ 2 * (pre.length + 1) := by omega
        have hb2 : out.length + 1 + 1 ≤ 2 * (pre.length + 1) := by omega
        obtain ⟨hm1, hm2, hm9, hn1, hn2, hn9⟩ : (out.length + 1) * 48 ≤ 140737488355328 ∧ out.length + 1 ≤ 9223372036854775807 ∧ out.length ≤ 9223372036854775806 ∧ (out.length + 1 + 1) * 48 ≤ 140737488355328 ∧ out.length + 1 + 1 ≤ 9223372036854775807 ∧ out.length + 1 ≤ 9223372036854775806 :=
          ⟨by omega, by omega, by omega, by omega, by omega, by omega⟩
        have hx := (at_row hs' hl).1; have hc := (at_row hs' hl).2.1; have hlt := (at_row hs' hl).2.2.1; have hw1 := (at_row hs' hl).2.2.2.1; have hl9 := (at_row hs' hl).2.2.2.2
        clear hs' hpre hout hb
        have hpl : ∀ f : Fact, plains [.agg [.int .i64 f.kind, .int .i64 f.subject, .int .i64 f.value, .int .i64 f.issuer, .int .i64 f.at_, .int .i64 f.until_]] = true := fun _ => rfl
        have d4 := c4 f x
        have d5 := c5 f x
        simp -implicitDefEqProofs only [putStep, putF, putIns, putX, laterF]
        rcases three d (factBefore f x) with rfl | ⟨rfl, hB⟩ | ⟨rfl, hB⟩
        · rcases five (sameClaim f x) (decide (x.at_ < f.at_)) (f.at_ == x.at_) (decide (x.until_ < f.until_)) with hS | ⟨hS, hT⟩ | ⟨hS, hT, hU⟩ | ⟨hS, hT, hU, hV⟩ | ⟨hS, hT, hU, hV⟩
          · rw [hS] at d5
            simp -implicitDefEqProofs only [W3, ↓D3, ↓DA, ↓DP, ↓DC, hS, d5, hx, hlt, hw1, enc_Fact, leaf_some, hm1, hm2, hm9, hn1, hn2, hn9, hb1, hb2, hpl, List.map_append, List.length_append, plan_50_8, keep_50_6, SH, Int.reduceToNat, id_eq, Int.reduceBEq, Int.reduceLE, Int.reduceLT, Nat.reduceAdd, Nat.reduceEqDiff, Nat.reduceLT, Nat.reduceLeDiff, Nat.reduceMul, Nat.reduceSub, reduceIte]
            try trace_state
          · rw [hS] at d5
            simp -implicitDefEqProofs only [W3, ↓D3, ↓DA, ↓DP, ↓DC, hS, hT, d5, hx, hlt, hw1, enc_Fact, leaf_some, hm1, hm2, hm9, hn1, hn2, hn9, hb1, hb2, hpl, List.map_append, List.length_append, plan_50_8, keep_50_6, SH, Int.reduceToNat, id_eq, Int.reduceBEq, Int.reduceLE, Int.reduceLT, Nat.reduceAdd, Nat.reduceEqDiff, Nat.reduceLT, Nat.reduceLeDiff, Nat.reduceMul, Nat.reduceSub, reduceIte]
            try trace_state
          · rw [hS] at d5
            simp -implicitDefEqProofs only [W3, ↓D3, ↓DA, ↓DP, ↓DC, hS, hT, hU, d5, hx, hlt, hw1, enc_Fact, leaf_some, hm1, hm2, hm9, hn1, hn2, hn9, hb1, hb2, hpl, List.map_append, List.length_append, plan_50_8, keep_50_6, SH, Int.reduceToNat, id_eq, Int.reduceBEq, Int.reduceLE, Int.reduceLT, Nat.reduceAdd, Nat.reduceEqDiff, Nat.reduceLT, Nat.reduceLeDiff, Nat.reduceMul, Nat.reduceSub, reduceIte]
            try trace_state
          · rw [hS] at d5
            simp -implicitDefEqProofs only [W3, ↓D3, ↓DA, ↓DP, ↓DC, hS, hT, hU, hV, d5, hx, hlt, hw1, enc_Fact, leaf_some, hm1, hm2, hm9, hn1, hn2, hn9, hb1, hb2, hpl, List.map_append, List.length_append, plan_50_8, keep_50_6, SH, Int.reduceToNat, id_eq, Int.reduceBEq, Int.reduceLE, Int.reduceLT, Nat.reduceAdd, Nat.reduceEqDiff, Nat.reduceLT, Nat.reduceLeDiff, Nat.reduceMul, Nat.reduceSub, reduceIte]
            try trace_state
          · rw [hS] at d5
            simp -implicitDefEqProofs only [W3, ↓D3, ↓DA, ↓DP, ↓DC, hS, hT, hU, hV, d5, hx, hlt, hw1, enc_Fact, leaf_some, hm1, hm2, hm9, hn1, hn2, hn9, hb1, hb2, hpl, List.map_append, List.length_append, plan_50_8, keep_50_6, SH, Int.reduceToNat, id_eq, Int.reduceBEq, Int.reduceLE, Int.reduceLT, Nat.reduceAdd, Nat.reduceEqDiff, Nat.reduceLT, Nat.reduceLeDiff, Nat.reduceMul, Nat.reduceSub, reduceIte]
            try trace_state
        · rcases five (sameClaim f x) (decide (x.at_ < f.at_)) (f.at_ == x.at_) (decide (x.until_ < f.until_)) with hS | ⟨hS, hT⟩ | ⟨hS, hT, hU⟩ | ⟨hS, hT, hU, hV⟩ | ⟨hS, hT, hU, hV⟩
          all_goals rw [hB] at d4
          · rw [hS] at d5
            simp -implicitDefEqProofs only [W3, ↓D3, ↓DA, ↓DP, ↓DC, hS, hB, d5, d4, hx, hlt, hw1, enc_Fact, leaf_some, hm1, hm2, hm9, hn1, hn2, hn9, hb1, hb2, hpl, List.map_append, List.length_append, plan_50_8, keep_50_6, SH, Int.reduceToNat, id_eq, Int.reduceBEq, Int.reduceLE, Int.reduceLT, Nat.reduceAdd, Nat.reduceEqDiff, Nat.reduceLT, Nat.reduceLeDiff, Nat.reduceMul, Nat.reduceSub, reduceIte]
            try trace_state
          · rw [hS] at d5
            simp -implicitDefEqProofs only [W3, ↓D3, ↓DA, ↓DP, ↓DC, hS, hT, hB, d5, d4, hx, hlt, hw1, enc_Fact, leaf_some, hm1, hm2, hm9, hn1, hn2, hn9, hb1, hb2, hpl, List.map_append, List.length_append, plan_50_8, keep_50_6, SH, Int.reduceToNat, id_eq, Int.reduceBEq, Int.reduceLE, Int.reduceLT, Nat.reduceAdd, Nat.reduceEqDiff, Nat.reduceLT, Nat.reduceLeDiff, Nat.reduceMul, Nat.reduceSub, reduceIte]
            try trace_state
          · rw [hS] at d5
            simp -implicitDefEqProofs only [W3, ↓D3, ↓DA, ↓DP, ↓DC, hS, hT, hU, hB, d5, d4, hx, hlt, hw1, enc_Fact, leaf_some, hm1, hm2, hm9, hn1, hn2, hn9, hb1, hb2, hpl, List.map_append, List.length_append, plan_50_8, keep_50_6, SH, Int.reduceToNat, id_eq, Int.reduceBEq, Int.reduceLE, Int.reduceLT, Nat.reduceAdd, Nat.reduceEqDiff, Nat.reduceLT, Nat.reduceLeDiff, Nat.reduceMul, Nat.reduceSub, reduceIte]
            try trace_state
          · rw [hS] at d5
            simp -implicitDefEqProofs only [W3, ↓D3, ↓DA, ↓DP, ↓DC, hS, hT, hU, hV, hB, d5, d4, hx, hlt, hw1, enc_Fact, leaf_some, hm1, hm2, hm9, hn1, hn2, hn9, hb1, hb2, hpl, List.map_append, List.length_append, plan_50_8, keep_50_6, SH, Int.reduceToNat, id_eq, Int.reduceBEq, Int.reduceLE, Int.reduceLT, Nat.reduceAdd, Nat.reduceEqDiff, Nat.reduceLT, Nat.reduceLeDiff, Nat.reduceMul, Nat.reduceSub, reduceIte]
            try trace_state
          · rw [hS] at d5
            simp -implicitDefEqProofs only [W3, ↓D3, ↓DA, ↓DP, ↓DC, hS, hT, hU, hV, hB, d5, d4, hx, hlt, hw1, enc_Fact, leaf_some, hm1, hm2, hm9, hn1, hn2, hn9, hb1, hb2, hpl, List.map_append, List.length_append, plan_50_8, keep_50_6, SH, Int.reduceToNat, id_eq, Int.reduceBEq, Int.reduceLE, Int.reduceLT, Nat.reduceAdd, Nat.reduceEqDiff, Nat.reduceLT, Nat.reduceLeDiff, Nat.reduceMul, Nat.reduceSub, reduceIte]
            try trace_state
        · rcases five (sameClaim f x) (decide (x.at_ < f.at_)) (f.at_ == x.at_) (decide (x.until_ < f.until_)) with hS | ⟨hS, hT⟩ | ⟨hS, hT, hU⟩ | ⟨hS, hT, hU, hV⟩ | ⟨hS, hT, hU, hV⟩
          all_goals rw [hB] at d4
          · rw [hS] at d5
            simp -implicitDefEqProofs only [W3, ↓D3, ↓DA, ↓DP, ↓DC, hS, hB, d5, d4, hx, hlt, hw1, enc_Fact, leaf_some, hm1, hm2, hm9, hn1, hn2, hn9, hb1, hb2, hpl, List.map_append, List.length_append, plan_50_8, keep_50_6, SH, Int.reduceToNat, id_eq, Int.reduceBEq, Int.reduceLE, Int.reduceLT, Nat.reduceAdd, Nat.reduceEqDiff, Nat.reduceLT, Nat.reduceLeDiff, Nat.reduceMul, Nat.reduceSub, reduceIte]
            try trace_state
          · rw [hS] at d5
            simp -implicitDefEqProofs only [W3, ↓D3, ↓DA, ↓DP, ↓DC, hS, hT, hB, d5, d4, hx, hlt, hw1, enc_Fact, leaf_some, hm1, hm2, hm9, hn1, hn2, hn9, hb1, hb2, hpl, List.map_append, List.length_append, plan_50_8, keep_50_6, SH, Int.reduceToNat, id_eq, Int.reduceBEq, Int.reduceLE, Int.reduceLT, Nat.reduceAdd, Nat.reduceEqDiff, Nat.reduceLT, Nat.reduceLeDiff, Nat.reduceMul, Nat.reduceSub, reduceIte]
            try trace_state
          · rw [hS] at d5
            simp -implicitDefEqProofs only [W3, ↓D3, ↓DA, ↓DP, ↓DC, hS, hT, hU, hB, d5, d4, hx, hlt, hw1, enc_Fact, leaf_some, hm1, hm2, hm9, hn1, hn2, hn9, hb1, hb2, hpl, List.map_append, List.length_append, plan_50_8, keep_50_6, SH, Int.reduceToNat, id_eq, Int.reduceBEq, Int.reduceLE, Int.reduceLT, Nat.reduceAdd, Nat.reduceEqDiff, Nat.reduceLT, Nat.reduceLeDiff, Nat.reduceMul, Nat.reduceSub, reduceIte]
            try trace_state
          · rw [hS] at d5
            simp -implicitDefEqProofs only [W3, ↓D3, ↓DA, ↓DP, ↓DC, hS, hT, hU, hV, hB, d5, d4, hx, hlt, hw1, enc_Fact, leaf_some, hm1, hm2, hm9, hn1, hn2, hn9, hb1, hb2, hpl, List.map_append, List.length_append, plan_50_8, keep_50_6, SH, Int.reduceToNat, id_eq, Int.reduceBEq, Int.reduceLE, Int.reduceLT, Nat.reduceAdd, Nat.reduceEqDiff, Nat.reduceLT, Nat.reduceLeDiff, Nat.reduceMul, Nat.reduceSub, reduceIte]
            try trace_state
          · rw [hS] at d5
            simp -implicitDefEqProofs only [W3, ↓D3, ↓DA, ↓DP, ↓DC, hS, hT, hU, hV, hB, d5, d4, hx, hlt, hw1, enc_Fact, leaf_some, hm1, hm2, hm9, hn1, hn2, hn9, hb1, hb2, hpl, List.map_append, List.length_append, plan_50_8, keep_50_6, SH, Int.reduceToNat, id_eq, Int.reduceBEq, Int.reduceLE, Int.reduceLT, Nat.reduceAdd, Nat.reduceEqDiff, Nat.reduceLT, Nat.reduceLeDiff, Nat.reduceMul, Nat.reduceSub, reduceIte]
            try trace_state
      · simp -implicitDefEqProofs only [firstRegion]
        rw [keep_50_6]
        simp -implicitDefEqProofs only [W3, ↓D3, ↓DA, ↓DP, ↓DC, Int.reduceToNat, id_eq, Int.reduceBEq, Int.reduceLE, Int.reduceLT, SH, Nat.reduceAdd, Nat.reduceEqDiff, Nat.reduceLT, Nat.reduceLeDiff, Nat.reduceMul, Nat.reduceSub, reduceIte]
      · rfl
def hashS (_ : Nat) (z : Int) (h : Int) : Sum Int Int := .inr (bits .and .i64 (IntKind.i64.wrap (IntKind.i64.wrap (IntKind.i64.wrap (h * 137) + IntKind.i64.wrap z) + 11)) 1073741823)
def hashOf (bs : List Int) : Int := loopL hashS id 0 (bs.take 4000) (IntKind.i64.wrap (193017 + ((bs.length : Nat) : Int)))
theorem r_spec_l1New {fl : Bool} (k : Nat) (hk : 281474976710656 + 1 ≤ k) (bs : List Int) (hb : bs.length ≤ 140737488355328) :
    run E noExt k 17 [.sl fl (bs.map byteA)] [] = some (.ptr 0 0, [[.sl fl (bs.map byteA), .int .i64 0, .int .i64 (hashOf bs)]]) := by
  obtain ⟨k, rfl⟩ : ∃ j, k = j + 1 := ⟨k - 1, by omega⟩
  rw [run_succ rfl rfl, body_eq (nt := 32) (fn := Go.Proofs.Tryz.f17) (by kernel_rfl) rfl rfl rfl rfl rfl rfl rfl rfl]
  simp -implicitDefEqProofs only [W4, ↓D4, ↓DA, ↓DP, ↓DC, Go.Proofs.Tryz.f17, SH, dedup, nodupB, idx, AV.rows, AV.rowss, AV.mapO, AV.mapOs, Int.reduceToNat, id_eq, Int.reduceBEq, Int.reduceLE, Int.reduceLT, Nat.reduceAdd, Nat.reduceEqDiff, Nat.reduceLT, Nat.reduceLeDiff, Nat.reduceMul, Nat.reduceSub, reduceIte]
  rw [ev_loop]
  have hlen : (bs.take 4000).length = min 4000 bs.length := List.length_take
  refine Eq.trans (loop_list (Q := fun g x => thenEnd E.P _ _ 0 (thenEv E _ _ _ _ _ (outOf 0 x)) = some (.ptr 0 0, [[.sl fl (bs.map byteA), .int .i64 0, .int .i64 g]])) (bs.take 4000) hashS id
    (fun i h => { sl := [(0, .sl fl (bs.map byteA)), (3, .int .i64 h), (4, .int .i64 (i : Nat))], bx := [], nx := 0, nt := 32 }) (fun _ _ => True) (IntKind.i64.wrap (193017 + ((bs.length : Nat) : Int))) ?_ ?_ (by omega) trivial ?_) ?_
  · intro h _
    rcases Nat.lt_or_ge bs.length 4000 with hl | hl
    · have hm : (bs.take 4000).length = bs.length := by omega
      rw [hm]
      have hlt : ¬ ((bs.length : Nat) : Int) < ((bs.length : Nat) : Int) := by omega
      simp -implicitDefEqProofs only [W3, ↓D3, ↓DA, ↓DP, ↓DC, QX, hlt, id_eq, look_cons, reduceCtorEq, evCall, evGive, giveRows, ioBoxes, mutArgs, roArgs, handArg, mutSlots, isPtrB, pairs, pairss, back_nil, back_cons, backO, backE, setBoxes, importB, mode_mut, mode_give, mode_io, mode_ro, List.zip_cons_cons, List.zip_nil_left, List.zip_nil_right, ite_self, ite_true, ite_false, finish_give, finish_mut1, finish_io0, finish_io1, finish_io2, finish_io3, finish_ioc, finI, finC, finW_ptr, SH, leaf_some, isNormal, Int.reduceToNat, Int.reduceBEq, Int.reduceLE, Int.reduceLT, Nat.reduceAdd, Nat.reduceEqDiff, Nat.reduceLT, Nat.reduceLeDiff, Nat.reduceMul, Nat.reduceSub, reduceIte]
      repeat' (split <;> (rename_i h; (try simp -implicitDefEqProofs only [Bool.not_eq_true', Bool.not_eq_false', decide_eq_true_eq, decide_eq_false_iff_not] at h); (try simp -implicitDefEqProofs only [W3, ↓D3, ↓DA, ↓DP, ↓DC, QX, *, hlt, id_eq, look_cons, reduceCtorEq, evCall, evGive, giveRows, ioBoxes, mutArgs, roArgs, handArg, mutSlots, isPtrB, pairs, pairss, back_nil, back_cons, backO, backE, setBoxes, importB, mode_mut, mode_give, mode_io, mode_ro, List.zip_cons_cons, List.zip_nil_left, List.zip_nil_right, ite_self, ite_true, ite_false, finish_give, finish_mut1, finish_io0, finish_io1, finish_io2, finish_io3, finish_ioc, finI, finC, finW_ptr, SH, leaf_some, isNormal, Int.reduceToNat, Int.reduceBEq, Int.reduceLE, Int.reduceLT, Nat.reduceAdd, Nat.reduceEqDiff, Nat.reduceLT, Nat.reduceLeDiff, Nat.reduceMul, Nat.reduceSub, reduceIte])))
      all_goals (rw [finish_give rfl]; simp -implicitDefEqProofs only [W3, ↓D3, ↓DA, ↓DP, ↓DC, finW_ptr, Int.reduceToNat, id_eq, Int.reduceBEq, Int.reduceLE, Int.reduceLT, SH, Nat.reduceAdd, Nat.reduceEqDiff, Nat.reduceLT, Nat.reduceLeDiff, Nat.reduceMul, Nat.reduceSub, reduceIte])
    · have hm : (bs.take 4000).length = 4000 := by omega
      rw [hm]
      have h9 : ¬ ((4000 : Nat) : Int) < 4000 := by omega
      rcases Nat.lt_or_ge 4000 bs.length with hl2 | hl2
      · have hlt : ((4000 : Nat) : Int) < ((bs.length : Nat) : Int) := by omega
        simp -implicitDefEqProofs only [W3, ↓D3, ↓DA, ↓DP, ↓DC, QX, hlt, h9, id_eq, look_cons, reduceCtorEq, evCall, evGive, giveRows, ioBoxes, mutArgs, roArgs, handArg, mutSlots, isPtrB, pairs, pairss, back_nil, back_cons, backO, backE, setBoxes, importB, mode_mut, mode_give, mode_io, mode_ro, List.zip_cons_cons, List.zip_nil_left, List.zip_nil_right, ite_self, ite_true, ite_false, finish_give, finish_mut1, finish_io0, finish_io1, finish_io2, finish_io3, finish_ioc, finI, finC, finW_ptr, SH, leaf_some, isNormal, Int.reduceToNat, Int.reduceBEq, Int.reduceLE, Int.reduceLT, Nat.reduceAdd, Nat.reduceEqDiff, Nat.reduceLT, Nat.reduceLeDiff, Nat.reduceMul, Nat.reduceSub, reduceIte]
        repeat' (split <;> (rename_i h; (try simp -implicitDefEqProofs only [Bool.not_eq_true', Bool.not_eq_false', decide_eq_true_eq, decide_eq_false_iff_not] at h); (try simp -implicitDefEqProofs only [W3, ↓D3, ↓DA, ↓DP, ↓DC, QX, *, hlt, h9, id_eq, look_cons, reduceCtorEq, evCall, evGive, giveRows, ioBoxes, mutArgs, roArgs, handArg, mutSlots, isPtrB, pairs, pairss, back_nil, back_cons, backO, backE, setBoxes, importB, mode_mut, mode_give, mode_io, mode_ro, List.zip_cons_cons, List.zip_nil_left, List.zip_nil_right, ite_self, ite_true, ite_false, finish_give, finish_mut1, finish_io0, finish_io1, finish_io2, finish_io3, finish_ioc, finI, finC, finW_ptr, SH, leaf_some, isNormal, Int.reduceToNat, Int.reduceBEq, Int.reduceLE, Int.reduceLT, Nat.reduceAdd, Nat.reduceEqDiff, Nat.reduceLT, Nat.reduceLeDiff, Nat.reduceMul, Nat.reduceSub, reduceIte])))
        all_goals (rw [finish_give rfl]; simp -implicitDefEqProofs only [W3, ↓D3, ↓DA, ↓DP, ↓DC, finW_ptr, Int.reduceToNat, id_eq, Int.reduceBEq, Int.reduceLE, Int.reduceLT, SH, Nat.reduceAdd, Nat.reduceEqDiff, Nat.reduceLT, Nat.reduceLeDiff, Nat.reduceMul, Nat.reduceSub, reduceIte])
      · have hlt : ¬ ((4000 : Nat) : Int) < ((bs.length : Nat) : Int) := by omega
        simp -implicitDefEqProofs only [W3, ↓D3, ↓DA, ↓DP, ↓DC, QX, hlt, h9, id_eq, look_cons, reduceCtorEq, evCall, evGive, giveRows, ioBoxes, mutArgs, roArgs, handArg, mutSlots, isPtrB, pairs, pairss, back_nil, back_cons, backO, backE, setBoxes, importB, mode_mut, mode_give, mode_io, mode_ro, List.zip_cons_cons, List.zip_nil_left, List.zip_nil_right, ite_self, ite_true, ite_false, finish_give, finish_mut1, finish_io0, finish_io1, finish_io2, finish_io3, finish_ioc, finI, finC, finW_ptr, SH, leaf_some, isNormal, Int.reduceToNat, Int.reduceBEq, Int.reduceLE, Int.reduceLT, Nat.reduceAdd, Nat.reduceEqDiff, Nat.reduceLT, Nat.reduceLeDiff, Nat.reduceMul, Nat.reduceSub, reduceIte]
        repeat' (split <;> (rename_i h; (try simp -implicitDefEqProofs only [Bool.not_eq_true', Bool.not_eq_false', decide_eq_true_eq, decide_eq_false_iff_not] at h); (try simp -implicitDefEqProofs only [W3, ↓D3, ↓DA, ↓DP, ↓DC, QX, *, hlt, h9, id_eq, look_cons, reduceCtorEq, evCall, evGive, giveRows, ioBoxes, mutArgs, roArgs, handArg, mutSlots, isPtrB, pairs, pairss, back_nil, back_cons, backO, backE, setBoxes, importB, mode_mut, mode_give, mode_io, mode_ro, List.zip_cons_cons, List.zip_nil_left, List.zip_nil_right, ite_self, ite_true, ite_false, finish_give, finish_mut1, finish_io0, finish_io1, finish_io2, finish_io3, finish_ioc, finI, finC, finW_ptr, SH, leaf_some, isNormal, Int.reduceToNat, Int.reduceBEq, Int.reduceLE, Int.reduceLT, Nat.reduceAdd, Nat.reduceEqDiff, Nat.reduceLT, Nat.reduceLeDiff, Nat.reduceMul, Nat.reduceSub, reduceIte])))
        all_goals (rw [finish_give rfl]; simp -implicitDefEqProofs only [W3, ↓D3, ↓DA, ↓DP, ↓DC, finW_ptr, Int.reduceToNat, id_eq, Int.reduceBEq, Int.reduceLE, Int.reduceLT, SH, Nat.reduceAdd, Nat.reduceEqDiff, Nat.reduceLT, Nat.reduceLeDiff, Nat.reduceMul, Nat.reduceSub, reduceIte])
  · intro pre z r h hs' _
    have hpl : pre.length < 4000 ∧ pre.length < bs.length := by have := congrArg List.length hs'; simp at this; omega
    have hx : bs[pre.length]? = some z := by
      have h1 : (bs.take 4000)[pre.length]? = some z := by rw [hs']; simp
      rw [List.getElem?_take] at h1
      simpa [hpl.1] using h1
    have hlt : ((pre.length : Nat) : Int) < ((bs.length : Nat) : Int) := by omega
    have hlt2 : ((pre.length : Nat) : Int) < 4000 := by omega
    have hw1 : IntKind.i64.wrap (((pre.length : Nat) : Int) + 1) = ((pre.length + 1 : Nat) : Int) := by rw [IntWalk.i64_in _ (by omega)]; omega
    clear hs'
    simp -implicitDefEqProofs only [W3, ↓D3, ↓DA, ↓DP, ↓DC, QX, hx, hlt, hlt2, hw1, byteA_eq, op_convert, conv_u8, andI, hashS, SH, keep_17_3, leaf_some, isNormal, Int.reduceToNat, id_eq, Int.reduceBEq, Int.reduceLE, Int.reduceLT, Nat.reduceAdd, Nat.reduceEqDiff, Nat.reduceLT, Nat.reduceLeDiff, Nat.reduceMul, Nat.reduceSub, reduceIte]
    repeat' (split <;> (rename_i h; (try simp -implicitDefEqProofs only [Bool.not_eq_true', Bool.not_eq_false', decide_eq_true_eq, decide_eq_false_iff_not] at h); (try simp -implicitDefEqProofs only [W3, ↓D3, ↓DA, ↓DP, ↓DC, QX, *, hx, hlt, hlt2, hw1, byteA_eq, op_convert, conv_u8, andI, hashS, SH, keep_17_3, leaf_some, isNormal, Int.reduceToNat, id_eq, Int.reduceBEq, Int.reduceLE, Int.reduceLT, Nat.reduceAdd, Nat.reduceEqDiff, Nat.reduceLT, Nat.reduceLeDiff, Nat.reduceMul, Nat.reduceSub, reduceIte])))
  · simp -implicitDefEqProofs only [firstRegion]
    rw [keep_17_3]
    simp -implicitDefEqProofs only [W3, ↓D3, ↓DA, ↓DP, ↓DC, Int.reduceToNat, id_eq, Int.reduceBEq, Int.reduceLE, Int.reduceLT, SH, Nat.reduceAdd, Nat.reduceEqDiff, Nat.reduceLT, Nat.reduceLeDiff, Nat.reduceMul, Nat.reduceSub, reduceIte]
  · rfl
end Go.Proofs.YtokjpncehggojaaGreat.Flat
