/-
Facts that a condition uses.
-/
import Derived.Test.YtigfcbcnfppmcaaGreatEqCM
import Derived.Test.YtigfcbcnfppmcaaGreatEqYM
import Derived.Test.YtigfcbcnfppmcaaGreatEqNA
set_option linter.unusedVariables false
set_option linter.unusedSimpArgs false
set_option maxRecDepth 10000
namespace Go.Proofs.YtigfcbcnfppmcaaGreat.Flat
noncomputable def touches (x : Cond) (f : Fact) (q : Request) : Bool :=
  if holdsAt f q.now x.b = false then false
  else if (x.op == 2) = true then (f.kind == 1) && (f.subject == q.person)
  else if (x.op == 3) = true then ((f.kind == 2) && (f.subject == q.person)) && (f.value == q.device)
  else if (x.op == 4) = true then (f.kind == 3) && (f.subject == q.device)
  else if (x.op == 5) = true then (f.kind == 4) && (f.subject == q.program)
  else false
theorem r_impl_concerns {fl f2 f3 : Bool} (k : Nat) (hk : 281474976710656 + 8 ≤ k) (x : Cond) (f : Fact) (q : Request) :
    run E noExt k 40 [x.enc fl, f.enc f2, q.enc f3] [] = some (.bool (touches x f q), []) := by
  have c1 := r_impl_HoldsAt (fl := f2) (k - 1) (by omega) f q.now x.b
  obtain ⟨k, rfl⟩ : ∃ j, k = j + 1 := ⟨k - 1, by omega⟩
  rw [run_succ rfl rfl, body_eq (nt := 71) (fn := Go.Proofs.Tryz.f40) (by kernel_rfl) rfl rfl rfl rfl rfl rfl rfl rfl]
  simp -implicitDefEqProofs only [Nat.add_sub_cancel, enc_Fact] at c1
  unfold touches
  cases hh : holdsAt f q.now x.b with
  | false =>
    rw [hh] at c1
    simp -implicitDefEqProofs only [QS, QN, ZRS, ↓ZDS, Go.Proofs.Tryz.f40, enc_Cond, enc_Fact, enc_Request, c1, ifEv_bool, if_true, SN, evCutRow, Int.reduceToNat, id_eq, Int.reduceBEq, Int.reduceLE, Int.reduceLT, SS, one_ne2, num_ne2, TIS, MDS, AV.cells, AV.isCell, Value.cells, Nat.reduceAdd, Nat.reduceEqDiff, Nat.reduceLT, Nat.reduceLeDiff, Nat.reduceMul, Nat.reduceSub, reduceIte]
  | true =>
    rw [hh] at c1
    cases e2 : (x.op == 2) with
    | true => cases g1 : (f.kind == 1) <;> cases g2 : (f.subject == q.person) <;> simp -implicitDefEqProofs only [QS, QN, ZRS, ↓ZDS, Go.Proofs.Tryz.f40, enc_Cond, enc_Fact, enc_Request, c1, ifEv_bool, gate_bool, pick_bool, Bool.true_eq_false, if_false, if_true, e2, g1, g2, SN, evCutRow, Int.reduceToNat, id_eq, Int.reduceBEq, Int.reduceLE, Int.reduceLT, SS, one_ne2, num_ne2, TIS, MDS, AV.cells, AV.isCell, Value.cells, Nat.reduceAdd, Nat.reduceEqDiff, Nat.reduceLT, Nat.reduceLeDiff, Nat.reduceMul, Nat.reduceSub, reduceIte]
    | false =>
      cases e3 : (x.op == 3) with
      | true => cases g1 : (f.kind == 2) <;> cases g2 : (f.subject == q.person) <;> cases g3 : (f.value == q.device) <;> simp -implicitDefEqProofs only [QS, QN, ZRS, ↓ZDS, Go.Proofs.Tryz.f40, enc_Cond, enc_Fact, enc_Request, c1, ifEv_bool, gate_bool, pick_bool, Bool.true_eq_false, if_false, if_true, e2, e3, g1, g2, g3, SN, evCutRow, Int.reduceToNat, id_eq, Int.reduceBEq, Int.reduceLE, Int.reduceLT, SS, one_ne2, num_ne2, TIS, MDS, AV.cells, AV.isCell, Value.cells, Nat.reduceAdd, Nat.reduceEqDiff, Nat.reduceLT, Nat.reduceLeDiff, Nat.reduceMul, Nat.reduceSub, reduceIte]
      | false =>
        cases e4 : (x.op == 4) with
        | true => cases g1 : (f.kind == 3) <;> cases g2 : (f.subject == q.device) <;> simp -implicitDefEqProofs only [QS, QN, ZRS, ↓ZDS, Go.Proofs.Tryz.f40, enc_Cond, enc_Fact, enc_Request, c1, ifEv_bool, gate_bool, pick_bool, Bool.true_eq_false, if_false, if_true, e2, e3, e4, g1, g2, SN, evCutRow, Int.reduceToNat, id_eq, Int.reduceBEq, Int.reduceLE, Int.reduceLT, SS, one_ne2, num_ne2, TIS, MDS, AV.cells, AV.isCell, Value.cells, Nat.reduceAdd, Nat.reduceEqDiff, Nat.reduceLT, Nat.reduceLeDiff, Nat.reduceMul, Nat.reduceSub, reduceIte]
        | false =>
          cases e5 : (x.op == 5) with
          | true => cases g1 : (f.kind == 4) <;> cases g2 : (f.subject == q.program) <;> simp -implicitDefEqProofs only [QS, QN, ZRS, ↓ZDS, Go.Proofs.Tryz.f40, enc_Cond, enc_Fact, enc_Request, c1, ifEv_bool, gate_bool, pick_bool, Bool.true_eq_false, if_false, if_true, e2, e3, e4, e5, g1, g2, SN, evCutRow, Int.reduceToNat, id_eq, Int.reduceBEq, Int.reduceLE, Int.reduceLT, SS, one_ne2, num_ne2, TIS, MDS, AV.cells, AV.isCell, Value.cells, Nat.reduceAdd, Nat.reduceEqDiff, Nat.reduceLT, Nat.reduceLeDiff, Nat.reduceMul, Nat.reduceSub, reduceIte]
          | false => simp -implicitDefEqProofs only [QS, QN, ZRS, ↓ZDS, Go.Proofs.Tryz.f40, enc_Cond, enc_Fact, enc_Request, c1, ifEv_bool, gate_bool, pick_bool, Bool.true_eq_false, if_false, if_true, e2, e3, e4, e5, SN, evCutRow, Int.reduceToNat, id_eq, Int.reduceBEq, Int.reduceLE, Int.reduceLT, SS, one_ne2, num_ne2, TIS, MDS, AV.cells, AV.isCell, Value.cells, Nat.reduceAdd, Nat.reduceEqDiff, Nat.reduceLT, Nat.reduceLeDiff, Nat.reduceMul, Nat.reduceSub, reduceIte]
noncomputable def usesAt (x : Cond) (q : Request) (f : Fact) : Bool := (gather x []).any fun c => touches c f q
def uStep (p : Fact → Bool) (i : Nat) (f : Fact) (b : List Int) : Sum (List Int) (List Int) := .inr (if p f = true then b ++ [(i : Int)] else b)
def usedL (p : Fact → Bool) (s : List Fact) : List Int := loopL (uStep p) id 0 s []
theorem uLoop_len (p : Fact → Bool) : ∀ (s : List Fact) (i : Nat) (b : List Int), (loopL (uStep p) id i s b).length ≤ b.length + s.length
  | [], i, b => by simp [loopL]
  | c :: r, i, b => by
    simp -implicitDefEqProofs only [loopL, uStep]
    have := uLoop_len p r (i + 1) (if p c = true then b ++ [(i : Int)] else b)
    simp -implicitDefEqProofs only [List.length_cons]
    split at this
    · rename_i h; simp -implicitDefEqProofs only [h, if_true]; rw [List.length_append] at this; simp -implicitDefEqProofs only [List.length_singleton] at this; omega
    · rename_i h; simp -implicitDefEqProofs only [h, if_false, Bool.false_eq_true] at *; omega
theorem usedL_len (p : Fact → Bool) (s : List Fact) : (usedL p s).length ≤ s.length := by
  have := uLoop_len p s 0 []
  simpa [usedL] using this
theorem r_impl_UsedFacts {fl f2 : Bool} (k : Nat) (l : List Includes) (s : List Fact) (hs1 : s.length ≤ 1099511627776) (x : Cond) (hk : 290271069732864 + 4 * x.w + 40 ≤ k) (hx : x.w ≤ 1099511627776) (q : Request) :
    run E noExt k 10 [.sl fl (l.map (Includes.enc fl)), .sl f2 (s.map (Fact.enc f2)), x.enc true, q.enc true] [] = some (.own 0 false 3 1 ((usedL (usesAt x q) s).map (AV.int .i64)), []) := by
  have hs : s.length ≤ 140737488355328 := by omega
  have hgf := gather_facts x []
  have hgl := hgf.1 leaves_nil
  have hsc := scals_leaves hgl
  have hgn := hgf.2
  simp -implicitDefEqProofs only [List.length_nil] at hgn
  have c1 := r_impl_LeavesOf (fl := true) (k - 1) x (by omega) hx
  have c2 := fun (f : Fact) => r_slices_ContainsFunc_Cond (fl := true) (k - 1) (gather x []) (by omega) (by omega) 39 [.cptr [.int .i64 f.kind, .int .i64 f.subject, .int .i64 f.value, .int .i64 f.issuer, .int .i64 f.at_, .int .i64 f.until_], .cptr [.int .i64 q.person, .int .i64 q.device, .int .i64 q.program, .int .i64 q.action, .int .i64 q.object, .int .i64 q.now]] (plain_of rfl) (fun c => touches c f q) (fun c hc => by
    have c0 := r_impl_concerns (fl := true) (f2 := true) (f3 := true) (k - 4) (by omega) c f q
    rw [show k - 1 - 2 = (k - 4) + 1 by omega]
    rw [run_succ rfl rfl, body_eq (nt := 9) (fn := Go.Proofs.Tryz.f39) (by kernel_rfl) rfl rfl rfl rfl rfl rfl rfl rfl]
    simp -implicitDefEqProofs only [enc_Cond, enc_Fact, enc_Request] at c0
    simp -implicitDefEqProofs only [QS, QN, ZRS, ↓ZDS, enc_Cond, Go.Proofs.Tryz.f39, c0, SN, evCutRow, Int.reduceToNat, id_eq, Int.reduceBEq, Int.reduceLE, Int.reduceLT, SS, one_ne2, num_ne2, TIS, MDS, AV.cells, AV.isCell, Value.cells, Nat.reduceAdd, Nat.reduceEqDiff, Nat.reduceLT, Nat.reduceLeDiff, Nat.reduceMul, Nat.reduceSub, reduceIte])
  unfold usedL
  obtain ⟨k, rfl⟩ : ∃ j, k = j + 1 := ⟨k - 1, by omega⟩
  rw [run_succ rfl rfl, body_eq (nt := 32) (fn := Go.Proofs.Tryz.f10) (by kernel_rfl) rfl rfl rfl rfl rfl rfl rfl rfl]
  simp -implicitDefEqProofs only [Nat.add_sub_cancel, enc_Cond] at c1 c2
  simp -implicitDefEqProofs only [QS, QN, QO, ZRS, ↓ZDS, ZRO, ↓ZDO, Go.Proofs.Tryz.f10, enc_Cond, enc_Request, c1, hsc, SO, SH, evAppend, rowOf, noref, isRef, isPtr, noPtr, isBad, AV.isUndef, dedup, nodupB, idx, AV.rows, AV.rowss, AV.mapO, AV.mapOs, SN, evCutRow, Int.reduceToNat, id_eq, Int.reduceBEq, Int.reduceLE, Int.reduceLT, SS, one_ne2, num_ne2, TIS, MDS, AV.cells, AV.isCell, Value.cells, Nat.reduceAdd, Nat.reduceEqDiff, Nat.reduceLT, Nat.reduceLeDiff, Nat.reduceMul, Nat.reduceSub, reduceIte]
  rw [ev_loop]
  refine Eq.trans (loop_list (Q := fun (g : List Int) z => thenEnd E.P _ _ 0 (thenEv E _ _ _ _ _ (outOf 0 z)) = some (.own 0 false 3 1 (g.map (AV.int .i64)), [])) s (uStep (usesAt x q)) id
    (fun i b => { sl := [(7, .ptr 0 0), (9, .own 0 false 3 1 (b.map (AV.int .i64))), (10, .own 1 false 28 4 ((gather x []).map (Cond.enc true))), (16, .sl f2 (s.map (Fact.enc f2))), (17, .int .i64 (s.length : Nat)), (18, .int .i64 (i : Nat))], bx := [(0, [.int .i64 q.person, .int .i64 q.device, .int .i64 q.program, .int .i64 q.action, .int .i64 q.object, .int .i64 q.now])], nx := 3, nt := 32 })
    (fun i b => b.length ≤ i) [] ?_ ?_ (by omega) (by simp) ?_) rfl
  · intro b _
    simp -implicitDefEqProofs only [QS, QN, QG, QO, ZRS, ↓ZDS, ZRG, ↓ZDG, ZRO, ↓ZDO, SO, SH, evAppend, rowOf, noref, isRef, isPtr, noPtr, isBad, AV.isUndef, leaf_some, isNormal, ifEv_bool, gate_bool, gateP_bool, gateQ_bool, pick_bool, SN, evCutRow, Int.reduceToNat, id_eq, Int.reduceBEq, Int.reduceLE, Int.reduceLT, SS, one_ne2, num_ne2, TIS, MDS, AV.cells, AV.isCell, Value.cells, Nat.reduceAdd, Nat.reduceEqDiff, Nat.reduceLT, Nat.reduceLeDiff, Nat.reduceMul, Nat.reduceSub, reduceIte]
    repeat' (split <;> (rename_i h; (try simp -implicitDefEqProofs only [Bool.not_eq_true', Bool.not_eq_false', decide_eq_true_eq, decide_eq_false_iff_not] at h); (try simp -implicitDefEqProofs only [QS, QN, QG, QO, ZRS, ↓ZDS, ZRG, ↓ZDG, ZRO, ↓ZDO, *, SO, SH, evAppend, rowOf, noref, isRef, isPtr, noPtr, isBad, AV.isUndef, leaf_some, isNormal, ifEv_bool, gate_bool, gateP_bool, gateQ_bool, pick_bool, SN, evCutRow, Int.reduceToNat, id_eq, Int.reduceBEq, Int.reduceLE, Int.reduceLT, SS, one_ne2, num_ne2, TIS, MDS, AV.cells, AV.isCell, Value.cells, Nat.reduceAdd, Nat.reduceEqDiff, Nat.reduceLT, Nat.reduceLeDiff, Nat.reduceMul, Nat.reduceSub, reduceIte])))
  · intro pre f r b hs' hb
    have hx := (at_row hs' hs).1; have hc := (at_row hs' hs).2.1; have hlt := (at_row hs' hs).2.2.1; have hw1 := (at_row hs' hs).2.2.2.1; have hl9 := (at_row hs' hs).2.2.2.2
    clear hs'
    have c3 := c2 f
    have hst : uStep (usesAt x q) pre.length f b = .inr (if (usesAt x q f) = true then b ++ [(pre.length : Int)] else b) := rfl
    rw [show usesAt x q f = (gather x []).any (fun c => touches c f q) from rfl] at hst
    have hm1 : (b.length + 1) * 8 ≤ 140737488355328 := by omega
    have hm2 : b.length + 1 ≤ 9223372036854775807 := by omega
    have hm9 : b.length ≤ 9223372036854775806 := by omega
    have hm3 : b.length ≤ pre.length + 1 := by omega
    have hm4 : (b ++ [(pre.length : Int)]).length ≤ pre.length + 1 := by rw [List.length_append]; exact Nat.succ_le_succ hb
    have hpl : plains [AV.int IntKind.i64 (pre.length : Int)] = true := rfl
    clear c1 c2
    generalize (gather x []).any (fun c => touches c f q) = e at *
    cases e <;> simp -implicitDefEqProofs only [Bool.false_eq_true, if_false, if_true] at hst
    all_goals
      simp -implicitDefEqProofs only [QS, QN, QG, QO, ZRS, ↓ZDS, ZRG, ↓ZDG, ZRO, ↓ZDO, enc_Fact, hx, hlt, hw1, c3, hst, hm1, hm2, hm3, hm4, hpl, hsc, List.map_append, SO, SH, evAppend, rowOf, noref, isRef, isPtr, noPtr, isBad, AV.isUndef, keep_10_3, leaf_some, isNormal, ifEv_bool, gate_bool, gateP_bool, gateQ_bool, pick_bool, SN, evCutRow, Int.reduceToNat, id_eq, Int.reduceBEq, Int.reduceLE, Int.reduceLT, SS, one_ne2, num_ne2, TIS, MDS, AV.cells, AV.isCell, Value.cells, Nat.reduceAdd, Nat.reduceEqDiff, Nat.reduceLT, Nat.reduceLeDiff, Nat.reduceMul, Nat.reduceSub, reduceIte]
      repeat' (split <;> (rename_i h; (try simp -implicitDefEqProofs only [Bool.not_eq_true', Bool.not_eq_false', decide_eq_true_eq, decide_eq_false_iff_not] at h); (try simp -implicitDefEqProofs only [QS, QN, QG, QO, ZRS, ↓ZDS, ZRG, ↓ZDG, ZRO, ↓ZDO, *, enc_Fact, hx, hlt, hw1, c3, hst, hm1, hm2, hm3, hm4, hpl, hsc, List.map_append, SO, SH, evAppend, rowOf, noref, isRef, isPtr, noPtr, isBad, AV.isUndef, keep_10_3, leaf_some, isNormal, ifEv_bool, gate_bool, gateP_bool, gateQ_bool, pick_bool, SN, evCutRow, Int.reduceToNat, id_eq, Int.reduceBEq, Int.reduceLE, Int.reduceLT, SS, one_ne2, num_ne2, TIS, MDS, AV.cells, AV.isCell, Value.cells, Nat.reduceAdd, Nat.reduceEqDiff, Nat.reduceLT, Nat.reduceLeDiff, Nat.reduceMul, Nat.reduceSub, reduceIte])))
  · simp -implicitDefEqProofs only [firstRegion]
    rw [keep_10_3]
    simp -implicitDefEqProofs only [QS, QN, QG, QO, ZRS, ↓ZDS, ZRG, ↓ZDG, ZRO, ↓ZDO, SN, evCutRow, Int.reduceToNat, id_eq, Int.reduceBEq, Int.reduceLE, Int.reduceLT, SO, SH, evAppend, rowOf, noref, isRef, isPtr, noPtr, isBad, AV.isUndef, SS, one_ne2, num_ne2, TIS, MDS, AV.cells, AV.isCell, Value.cells, Nat.reduceAdd, Nat.reduceEqDiff, Nat.reduceLT, Nat.reduceLeDiff, Nat.reduceMul, Nat.reduceSub, reduceIte]
end Go.Proofs.YtigfcbcnfppmcaaGreat.Flat
namespace Go.Proofs.YtigfcbcnfppmcaaGreat.Flat
theorem loopL_filter {α β : Type} (p c : α → Bool) (g : α → β → β) : ∀ (s : List α) (i j : Nat) (b : β), (∀ x ∈ s, c x = true → p x = true) →
    loopL (γ := β) (fun _ x b => .inr (if c x = true then g x b else b)) id i (s.filter p) b = loopL (γ := β) (fun _ x b => .inr (if c x = true then g x b else b)) id j s b
  | [], _, _, _, _ => rfl
  | x :: r, i, j, b, h => by
    have hr := fun y hy => h y (List.mem_cons_of_mem _ hy)
    cases hp : p x
    · have hc : c x = false := by
        cases hc : c x
        · rfl
        · rw [h x (by simp) hc] at hp; simp at hp
      rw [List.filter_cons_of_neg (by simp [hp])]
      simp -implicitDefEqProofs only [loopL, hc, Bool.false_eq_true, if_false]
      exact loopL_filter p c g r i (j + 1) b hr
    · rw [List.filter_cons_of_pos hp]
      simp -implicitDefEqProofs only [loopL]
      exact loopL_filter p c g r (i + 1) (j + 1) _ hr
theorem u_any (p : Fact → Bool) (n : Nat) : ∀ (s : List Fact) (i : Nat) (b : List Int),
    (loopL (uStep p) id i s b).any (fun c => c == (n : Int)) = (b.any (fun c => c == (n : Int)) || (decide (i ≤ n) && ((s[n - i]?).map p).getD false))
  | [], i, b => by simp [loopL]
  | f :: r, i, b => by
    simp -implicitDefEqProofs only [loopL, uStep]
    rw [u_any p n r (i + 1)]
    by_cases hi : n = i
    · subst hi
      have h1 : decide (n + 1 ≤ n) = false := decide_eq_false (by omega)
      have h2 : decide (n ≤ n) = true := decide_eq_true (by omega)
      rw [h1, h2, Nat.sub_self]
      simp -implicitDefEqProofs only [Bool.false_and, Bool.or_false, Bool.true_and, List.getElem?_cons_zero, Option.map_some, Option.getD_some]
      cases p f <;> simp
    · have hne : ((i : Int) == (n : Int)) = false := by simp; omega
      have hb : (if p f = true then b ++ [(i : Int)] else b).any (fun c => c == (n : Int)) = b.any (fun c => c == (n : Int)) := by
        cases p f <;> simp [hne]
      rw [hb]
      by_cases hl : i ≤ n
      · have h1 : decide (i + 1 ≤ n) = true := decide_eq_true (by omega)
        have h2 : decide (i ≤ n) = true := decide_eq_true hl
        have h3 : n - i = (n - (i + 1)) + 1 := by omega
        rw [h1, h2, h3, List.getElem?_cons_succ]
      · have h1 : decide (i + 1 ≤ n) = false := decide_eq_false (by omega)
        have h2 : decide (i ≤ n) = false := decide_eq_false hl
        rw [h1, h2]
        rfl
theorem o_filter (p : Fact → Bool) (keep : List Int) : ∀ (s : List Fact) (i : Nat) (b : List Fact), (∀ j x, s[j]? = some x → keep.any (fun c => c == ((i + j : Nat) : Int)) = p x) →
    loopL (onlyStep keep) id i s b = b ++ s.filter p
  | [], i, b, _ => by simp [loopL]
  | f :: r, i, b, h => by
    have h0 := h 0 f rfl
    rw [Nat.add_zero] at h0
    have hr : ∀ j x, r[j]? = some x → keep.any (fun c => c == ((i + 1 + j : Nat) : Int)) = p x := fun j x hj => by
      have := h (j + 1) x (by rw [List.getElem?_cons_succ]; exact hj)
      rw [show i + 1 + j = i + (j + 1) by omega]
      exact this
    simp -implicitDefEqProofs only [loopL, onlyStep, h0]
    rw [o_filter p keep r (i + 1) _ hr]
    cases hp : p f
    · rw [List.filter_cons_of_neg (by simp [hp])]; rfl
    · rw [List.filter_cons_of_pos hp]; simp
theorem only_used (p : Fact → Bool) (s : List Fact) : onlyFacts s (usedL p s) = s.filter p := by
  unfold onlyFacts
  rw [o_filter p]
  · rfl
  · intro j x hj
    unfold usedL
    rw [Nat.zero_add, u_any p j s 0 []]
    simp [hj]
theorem best_filter {p : Fact → Bool} {s : List Fact} {kind subject now age : Int} (h : ∀ f ∈ s, (f.kind == kind && (f.subject == subject && holdsAt f now age)) = true → p f = true) :
    bestValue (s.filter p) kind subject now age = bestValue s kind subject now age :=
  loopL_filter p (fun f => f.kind == kind && (f.subject == subject && holdsAt f now age)) (fun f b => if b < f.value then f.value else b) s 0 0 (-1) h
theorem find_filter {p : Fact → Bool} {s : List Fact} {kind subject value now age : Int} (h : ∀ f ∈ s, factIs kind subject value now age f = true → p f = true) :
    decide (0 ≤ findFact (s.filter p) kind subject value now age) = decide (0 ≤ findFact s kind subject value now age) := by
  unfold findFact
  rw [decide_eq_decide, indexBy_iff, indexBy_iff, List.any_filter]
  refine Eq.to_iff (congrArg (· = true) ?_)
  rw [Bool.eq_iff_iff, List.any_eq_true, List.any_eq_true]
  constructor
  · rintro ⟨x, hx, h2⟩
    exact ⟨x, hx, (Bool.and_eq_true _ _ ▸ h2).2⟩
  · rintro ⟨x, hx, h2⟩
    exact ⟨x, hx, by rw [h x hx h2, h2]; rfl⟩
theorem roles_filter {p : Fact → Bool} {l : List Includes} {s : List Fact} {person now age : Int} (h : ∀ f ∈ s, roleFact person now age f = true → p f = true) :
    rolesOf l (s.filter p) person now age = rolesOf l s person now age := by
  unfold rolesOf rolesM
  exact congrArg (fun m => under m 6) (loopL_filter p (roleFact person now age) (fun f m => markAll m (rolesUnder l f.value)) s 0 0 _ h)
theorem leaf_filter {l : List Includes} {s : List Fact} {q : Request} {p : Fact → Bool} {x : Cond} (h : ∀ f ∈ s, touches x f q = true → p f = true) : leafAt l (s.filter p) q x = leafAt l s q x := by
  have key : ∀ f ∈ s, holdsAt f q.now x.b = true → (if (x.op == 2) = true then (f.kind == 1) && (f.subject == q.person)
      else if (x.op == 3) = true then ((f.kind == 2) && (f.subject == q.person)) && (f.value == q.device)
      else if (x.op == 4) = true then (f.kind == 3) && (f.subject == q.device)
      else if (x.op == 5) = true then (f.kind == 4) && (f.subject == q.program)
      else false) = true → p f = true := fun f hf h1 h2 => h f hf (by unfold touches; rw [if_neg (by simp [h1])]; exact h2)
  unfold leafAt
  cases e1 : x.op == 1
  · cases e2 : x.op == 2
    · cases e3 : x.op == 3
      · cases e4 : x.op == 4
        · cases e5 : x.op == 5
          · rfl
          · simp -implicitDefEqProofs only [e2, e3, e4, e5, Bool.false_eq_true, if_false, if_true] at key ⊢
            rw [best_filter]
            intro f hf hh
            simp -implicitDefEqProofs only [Bool.and_eq_true] at hh
            exact key f hf hh.2.2 (by simp [hh.1, hh.2.1])
        · simp -implicitDefEqProofs only [e2, e3, e4, Bool.false_eq_true, if_false, if_true] at key ⊢
          rw [best_filter]
          intro f hf hh
          simp -implicitDefEqProofs only [Bool.and_eq_true] at hh
          exact key f hf hh.2.2 (by simp [hh.1, hh.2.1])
      · simp -implicitDefEqProofs only [e2, e3, Bool.false_eq_true, if_false, if_true] at key ⊢
        rw [find_filter]
        intro f hf hh
        simp -implicitDefEqProofs only [factIs, Bool.and_eq_true] at hh
        exact key f hf hh.2.2.2 (by simp [hh.1, hh.2.1, hh.2.2.1])
    · simp -implicitDefEqProofs only [e2, Bool.false_eq_true, if_false, if_true] at key ⊢
      unfold hasRole
      rw [roles_filter]
      intro f hf hh
      simp -implicitDefEqProofs only [roleFact, Bool.and_eq_true] at hh
      exact key f hf hh.2.2 (by simp [hh.1, hh.2.1])
  · rfl
theorem eval_used (l : List Includes) (s : List Fact) (q : Request) (x : Cond) : evalAt l (onlyFacts s (usedL (usesAt x q) s)) q x = evalAt l s q x := by
  rw [only_used]
  unfold evalAt
  cases hc : isCond x
  · rfl
  · rw [Bool.true_and, Bool.true_and]
    have hv : x.valid = true := by unfold isCond at hc; rw [Bool.and_eq_true] at hc; exact hc.2
    refine eval_leaves _ _ (fun y hy => by simp [leafAt, hy]) x hv (fun y hy => leaf_filter fun f hf ht => ?_)
    unfold usesAt
    refine List.any_eq_true.2 ⟨y, ?_, ht⟩
    rw [gather_foldl]
    exact mem_foldl _ _ _ hy
end Go.Proofs.YtigfcbcnfppmcaaGreat.Flat
namespace Go.Proofs.YtigfcbcnfppmcaaGreat.Flat
def atTime (q : Request) (n : Int) : Request := { q with now := n }
theorem r_impl_AtTime {fl : Bool} (k : Nat) (hk : 281474976710656 + 1 ≤ k) (q : Request) (n : Int) : run E noExt k 16 [q.enc fl, .int .i64 n] [] = some ((atTime q n).enc fl, []) := by
  obtain ⟨k, rfl⟩ : ∃ j, k = j + 1 := ⟨k - 1, by omega⟩
  rw [run_succ rfl rfl, body_eq (nt := 8) (fn := Go.Proofs.Tryz.f16) (by kernel_rfl) rfl rfl rfl rfl rfl rfl rfl rfl]
  simp -implicitDefEqProofs only [QS, QN, ZRS, ↓ZDS, Go.Proofs.Tryz.f16, atTime, enc_Request, SN, evCutRow, Int.reduceToNat, id_eq, Int.reduceBEq, Int.reduceLE, Int.reduceLT, SS, one_ne2, num_ne2, TIS, MDS, AV.cells, AV.isCell, Value.cells, Nat.reduceAdd, Nat.reduceEqDiff, Nat.reduceLT, Nat.reduceLeDiff, Nat.reduceMul, Nat.reduceSub, reduceIte]
/-- How many of the first n are true before the first that is not, from i. -/
def lead (g : Nat → Bool) : Nat → Nat → Nat
  | 0, i => i
  | n + 1, i => if g i = true then lead g n (i + 1) else i
theorem lead_lt (g : Nat → Bool) : ∀ (n i j : Nat), i ≤ j → j < lead g n i → g j = true
  | 0, i, j, h, h' => by simp [lead] at h'; omega
  | n + 1, i, j, h, h' => by
    unfold lead at h'
    split at h'
    · by_cases e : i = j
      · subst e; assumption
      · exact lead_lt g n (i + 1) j (by omega) h'
    · omega
theorem lead_end (g : Nat → Bool) : ∀ (n i : Nat), lead g n i < i + n → g (lead g n i) = false
  | 0, i, h => by simp [lead] at h
  | n + 1, i, h => by
    unfold lead at h ⊢
    split
    · rename_i e
      rw [if_pos e] at h
      exact lead_end g n (i + 1) (by omega)
    · rename_i e
      simpa using e
noncomputable def sameAt (l : List Includes) (s : List Fact) (x : Cond) (q : Request) (most : Int) (i : Nat) : Bool :=
  decide (q.now + i < q.now + most) && (decide (q.now + i < 10000) && (evalAt l s (atTime q (q.now + ((i + 1 : Nat) : Int))) x == evalAt l s q x))
noncomputable def holdsUntil (l : List Includes) (s : List Fact) (x : Cond) (q : Request) (most : Int) : Int :=
  if (isRequest q && inR most 0 60) = true then q.now + (lead (sameAt l s x q most) 61 0 : Nat) else q.now
theorem isRequest_now {q : Request} (h : isRequest q = true) : 0 ≤ q.now ∧ q.now ≤ 10000 := by
  unfold isRequest isT at h
  simp -implicitDefEqProofs only [Bool.and_eq_true, inR, decide_eq_true_eq] at h
  omega
theorem lead_same {l : List Includes} {s : List Fact} {x : Cond} {q : Request} {most : Int} (h : most ≤ 60) : lead (sameAt l s x q most) 61 0 ≤ 60 ∧ sameAt l s x q most (lead (sameAt l s x q most) 61 0) = false := by
  have h1 : ∀ j, j < lead (sameAt l s x q most) 61 0 → sameAt l s x q most j = true := fun j hj => lead_lt _ 61 0 j (by omega) hj
  have h2 : lead (sameAt l s x q most) 61 0 ≤ 60 := by
    by_cases e : lead (sameAt l s x q most) 61 0 ≤ 60
    · exact e
    · have := h1 60 (by omega)
      unfold sameAt at this
      simp -implicitDefEqProofs only [Bool.and_eq_true, decide_eq_true_eq] at this
      omega
  exact ⟨h2, lead_end _ 61 0 (by omega)⟩
theorem enc_atTime {fl : Bool} {q : Request} {n : Int} : (atTime q n).enc fl = .agg [.int .i64 q.person, .int .i64 q.device, .int .i64 q.program, .int .i64 q.action, .int .i64 q.object, .int .i64 n] := rfl
theorem r_impl_HoldsUntil {fl f2 f3 f4 : Bool} (k : Nat) (hk : 884940186000000 + 8 ≤ k) (l : List Includes) (hl : l.length ≤ 140737488355328) (s : List Fact) (hs : s.length ≤ 1099511627776) (x : Cond) (hx : x.w ≤ 1099511627776) (q : Request) (most : Int) :
    run E noExt k 14 [.sl fl (l.map (Includes.enc fl)), .sl f2 (s.map (Fact.enc f2)), x.enc f3, q.enc f4, .int .i64 most] [] = some (.int .i64 (holdsUntil l s x q most), []) := by
  have c1 := r_impl_IsRequest (fl := f4) (k - 1) (by omega) q
  have c2 := r_impl_InRange (k - 1) (by omega) most 0 60
  have c3 := r_impl_EvalCond (fl := fl) (f2 := f2) (f3 := f3) (f4 := f4) (k - 1) (by omega) l hl s hs x hx
  have c4 := r_impl_AtTime (fl := f4) (k - 1) (by omega) q
  have c5 := c3 q
  unfold holdsUntil
  obtain ⟨k, rfl⟩ : ∃ j, k = j + 1 := ⟨k - 1, by omega⟩
  rw [run_succ rfl rfl, body_eq (nt := 51) (fn := Go.Proofs.Tryz.f14) (by kernel_rfl) rfl rfl rfl rfl rfl rfl rfl rfl]
  simp -implicitDefEqProofs only [Nat.add_sub_cancel, enc_Cond, enc_atTime] at c1 c2 c3 c4 c5
  simp -implicitDefEqProofs only [enc_Request] at c1 c4 c5
  cases e1 : isRequest q with
  | false =>
    rw [e1] at c1
    simp -implicitDefEqProofs only [QS, QN, ZRS, ↓ZDS, Go.Proofs.Tryz.f14, enc_Cond, enc_Request, c1, c2, ifEv_bool, gate_bool, gateP_bool, gateQ_bool, pick_bool, SN, evCutRow, Int.reduceToNat, id_eq, Int.reduceBEq, Int.reduceLE, Int.reduceLT, SS, one_ne2, num_ne2, TIS, MDS, AV.cells, AV.isCell, Value.cells, Nat.reduceAdd, Nat.reduceEqDiff, Nat.reduceLT, Nat.reduceLeDiff, Nat.reduceMul, Nat.reduceSub, reduceIte]
  | true =>
    cases e2 : inR most 0 60 with
    | false =>
      rw [e1] at c1
      rw [e2] at c2
      simp -implicitDefEqProofs only [QS, QN, ZRS, ↓ZDS, Go.Proofs.Tryz.f14, enc_Cond, enc_Request, c1, c2, ifEv_bool, gate_bool, gateP_bool, gateQ_bool, pick_bool, SN, evCutRow, Int.reduceToNat, id_eq, Int.reduceBEq, Int.reduceLE, Int.reduceLT, SS, one_ne2, num_ne2, TIS, MDS, AV.cells, AV.isCell, Value.cells, Nat.reduceAdd, Nat.reduceEqDiff, Nat.reduceLT, Nat.reduceLeDiff, Nat.reduceMul, Nat.reduceSub, reduceIte]
    | true =>
      rw [e1] at c1
      rw [e2] at c2
      have hn := isRequest_now e1
      have hm : 0 ≤ most ∧ most ≤ 60 := by simpa [inR] using e2
      obtain ⟨hN, hE⟩ := lead_same (l := l) (s := s) (x := x) (q := q) (most := most) hm.2
      have hL : ∀ j, j < lead (sameAt l s x q most) 61 0 → sameAt l s x q most j = true := fun j hj => lead_lt _ 61 0 j (by omega) hj
      generalize hN0 : lead (sameAt l s x q most) 61 0 = N at hN hE hL
      have hw : IntKind.i64.wrap (q.now + most) = q.now + most := IntWalk.i64_in _ (by omega)
      obtain ⟨M, hM⟩ : ∃ M : Int, M = if (10000 : Int) < q.now + most then 10000 else q.now + most := ⟨_, rfl⟩
      have hMi : ∀ z : Int, decide (z < M) = (decide (z < q.now + most) && decide (z < 10000)) := by
        intro z
        rw [Bool.eq_iff_iff, Bool.and_eq_true, decide_eq_true_iff, decide_eq_true_iff, decide_eq_true_iff, hM]
        split <;> omega
      have hS : ∀ i, sameAt l s x q most i = (decide (q.now + (i : Nat) < M) && (evalAt l s (atTime q (q.now + ((i + 1 : Nat) : Int))) x == evalAt l s q x)) := by
        intro i
        unfold sameAt
        rw [hMi, Bool.and_assoc]
      simp -implicitDefEqProofs only [QS, QN, ZRS, ↓ZDS, Go.Proofs.Tryz.f14, enc_Cond, enc_Request, c1, c2, c5, Bool.and_self, ifEv_bool, gate_bool, gateP_bool, gateQ_bool, pick_bool, SN, evCutRow, Int.reduceToNat, id_eq, Int.reduceBEq, Int.reduceLE, Int.reduceLT, SS, one_ne2, num_ne2, TIS, MDS, AV.cells, AV.isCell, Value.cells, Nat.reduceAdd, Nat.reduceEqDiff, Nat.reduceLT, Nat.reduceLeDiff, Nat.reduceMul, Nat.reduceSub, reduceIte]
      rw [ev_loop]
      refine Eq.trans (loop_list (Q := fun (_ : Unit) z => thenEnd E.P [] _ 0 (thenEv E _ _ _ _ _ (outOf 0 z)) = some (.int .i64 (q.now + (N : Nat)), [])) (List.range N) goStep id
        (fun i _ => { sl := [(0, .sl fl (l.map (Includes.enc fl))), (1, .sl f2 (s.map (Fact.enc f2))), (4, .int .i64 most), (7, .ptr 0 0), (8, .ptr 1 0), (11, .int .i64 (q.now + (i : Nat))), (12, .bool (evalAt l s q x))],
                      bx := [(0, [.int .i64 x.op, .int .i64 x.a, .int .i64 x.b, .sl f3 (x.args.map (Cond.enc f3))]), (1, [.int .i64 q.person, .int .i64 q.device, .int .i64 q.program, .int .i64 q.action, .int .i64 q.object, .int .i64 q.now])], nx := 2, nt := 51 })
        (fun _ _ => True) () ?_ ?_ (by simp; omega) trivial ?_) ?_
      · intro _ _
        have hw1 : IntKind.i64.wrap (q.now + ((List.range N).length : Nat) + 1) = q.now + ((N + 1 : Nat) : Int) := by rw [List.length_range, IntWalk.i64_in _ (by omega)]; omega
        have c6 := c3 (atTime q (q.now + ((N + 1 : Nat) : Int)))
        have c7 := c4 (q.now + ((N + 1 : Nat) : Int))
        rw [hS] at hE
        simp -implicitDefEqProofs only [enc_atTime] at c6
        rw [List.length_range] at hw1
        generalize evalAt l s (atTime q (q.now + ((N + 1 : Nat) : Int))) x = b1 at c6 hE
        generalize evalAt l s q x = b2 at c5 hE
        cases e3 : decide (q.now + ((N : Nat) : Int) < M) with
        | false =>
          have e3' : (q.now + ((N : Nat) : Int) < M) = False := eq_false (of_decide_eq_false e3)
          simp -implicitDefEqProofs only [QS, QN, ZRS, ↓ZDS, List.length_range, hw, hw1, ← hM, e3, e3', op_min, min_int, plan_14_5, leaf_some, isNormal, ifEv_bool, gate_bool, gateP_bool, gateQ_bool, pick_bool, SN, evCutRow, Int.reduceToNat, id_eq, Int.reduceBEq, Int.reduceLE, Int.reduceLT, SS, one_ne2, num_ne2, TIS, MDS, AV.cells, AV.isCell, Value.cells, Nat.reduceAdd, Nat.reduceEqDiff, Nat.reduceLT, Nat.reduceLeDiff, Nat.reduceMul, Nat.reduceSub, reduceIte]
          repeat' (split <;> (rename_i h; (try simp -implicitDefEqProofs only [Bool.not_eq_true', Bool.not_eq_false', decide_eq_true_eq, decide_eq_false_iff_not] at h); (try simp -implicitDefEqProofs only [QS, QN, ZRS, ↓ZDS, *, List.length_range, hw, hw1, ← hM, e3, e3', op_min, min_int, plan_14_5, leaf_some, isNormal, ifEv_bool, gate_bool, gateP_bool, gateQ_bool, pick_bool, SN, evCutRow, Int.reduceToNat, id_eq, Int.reduceBEq, Int.reduceLE, Int.reduceLT, SS, one_ne2, num_ne2, TIS, MDS, AV.cells, AV.isCell, Value.cells, Nat.reduceAdd, Nat.reduceEqDiff, Nat.reduceLT, Nat.reduceLeDiff, Nat.reduceMul, Nat.reduceSub, reduceIte])))
        | true =>
          have e3' : (q.now + ((N : Nat) : Int) < M) = True := eq_true (of_decide_eq_true e3)
          simp -implicitDefEqProofs only [e3, Bool.true_and] at hE
          cases b1 <;> cases b2 <;> first
            | (exact absurd hE (by decide))
            | (simp -implicitDefEqProofs only [QS, QN, ZRS, ↓ZDS, List.length_range, hw, hw1, ← hM, e3, e3', c6, c7, op_min, min_int, leaf_some, isNormal, ifEv_bool, gate_bool, gateP_bool, gateQ_bool, pick_bool, plan_14_5, SN, evCutRow, Int.reduceToNat, id_eq, Int.reduceBEq, Int.reduceLE, Int.reduceLT, SS, one_ne2, num_ne2, TIS, MDS, AV.cells, AV.isCell, Value.cells, Nat.reduceAdd, Nat.reduceEqDiff, Nat.reduceLT, Nat.reduceLeDiff, Nat.reduceMul, Nat.reduceSub, reduceIte]; done)
            | trace_state
      · intro pre z r' _ hs' _
        have hp5 : pre.length < N := by have := congrArg List.length hs'; simp at this; omega
        clear hs'
        have hg := hL pre.length hp5
        have hw1 : IntKind.i64.wrap (q.now + (pre.length : Nat) + 1) = q.now + ((pre.length + 1 : Nat) : Int) := by rw [IntWalk.i64_in _ (by omega)]; omega
        have c6 := c3 (atTime q (q.now + ((pre.length + 1 : Nat) : Int)))
        have c7 := c4 (q.now + ((pre.length + 1 : Nat) : Int))
        rw [hS] at hg
        simp -implicitDefEqProofs only [Bool.and_eq_true, decide_eq_true_eq, beq_iff_eq] at hg
        obtain ⟨e3, e5⟩ := hg
        rw [e5] at c6
        have e3' := eq_true e3
        simp -implicitDefEqProofs only [enc_atTime] at c6
        generalize evalAt l s q x = b2 at c5 c6
        cases b2
        all_goals
          simp -implicitDefEqProofs only [QS, QN, QG, ZRS, ↓ZDS, ZRG, ↓ZDG, hw, hw1, ← hM, e3', c6, c7, goStep, op_min, min_int, plan_14_5, keep_14_5, leaf_some, isNormal, ifEv_bool, gate_bool, gateP_bool, gateQ_bool, pick_bool, SN, evCutRow, Int.reduceToNat, id_eq, Int.reduceBEq, Int.reduceLE, Int.reduceLT, SS, one_ne2, num_ne2, TIS, MDS, AV.cells, AV.isCell, Value.cells, Nat.reduceAdd, Nat.reduceEqDiff, Nat.reduceLT, Nat.reduceLeDiff, Nat.reduceMul, Nat.reduceSub, reduceIte]
          repeat' (split <;> (rename_i h; (try simp -implicitDefEqProofs only [Bool.not_eq_true', Bool.not_eq_false', decide_eq_true_eq, decide_eq_false_iff_not] at h); (try simp -implicitDefEqProofs only [QS, QN, QG, ZRS, ↓ZDS, ZRG, ↓ZDG, *, hw, hw1, ← hM, e3', c6, c7, goStep, op_min, min_int, plan_14_5, keep_14_5, leaf_some, isNormal, ifEv_bool, gate_bool, gateP_bool, gateQ_bool, pick_bool, SN, evCutRow, Int.reduceToNat, id_eq, Int.reduceBEq, Int.reduceLE, Int.reduceLT, SS, one_ne2, num_ne2, TIS, MDS, AV.cells, AV.isCell, Value.cells, Nat.reduceAdd, Nat.reduceEqDiff, Nat.reduceLT, Nat.reduceLeDiff, Nat.reduceMul, Nat.reduceSub, reduceIte])))
      · simp -implicitDefEqProofs only [firstRegion]
        rw [keep_14_5]
        have h0 : q.now + ((0 : Nat) : Int) = q.now := Int.add_zero _
        rw [h0]
        simp -implicitDefEqProofs only [QS, QN, QG, ZRS, ↓ZDS, ZRG, ↓ZDG, SN, evCutRow, Int.reduceToNat, id_eq, Int.reduceBEq, Int.reduceLE, Int.reduceLT, SS, one_ne2, num_ne2, TIS, MDS, AV.cells, AV.isCell, Value.cells, Nat.reduceAdd, Nat.reduceEqDiff, Nat.reduceLT, Nat.reduceLeDiff, Nat.reduceMul, Nat.reduceSub, reduceIte]
      · simp -implicitDefEqProofs only [Bool.and_self, if_true, hN0]
end Go.Proofs.YtigfcbcnfppmcaaGreat.Flat
