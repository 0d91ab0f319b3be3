/-
WithoutRule, whose rules stay ours: a rule that is kept is taken out of the row of the copies.
-/
import Derived.Test.YtkolknigffoleaaEqCRT
import Derived.Test.YtkolknigffoleaaEqYN
set_option linter.unusedVariables false
set_option linter.unusedSimpArgs false
set_option maxRecDepth 10000
namespace Go.Proofs.Ytkolknigffoleaa.Flat
def goneC : List AV → AV
  | [] => .sl true []
  | _ :: _ => .gone
theorem goneC_ne {vs : List AV} (h : vs ≠ []) : goneC vs = .gone := by cases vs with | nil => exact absurd rfl h | cons => rfl
def Rule.goneN (r : Rule) : AV := .agg [.int .i64 r.effect, .int .i64 r.action, .int .i64 r.object, .int .i64 r.cond.op, .int .i64 r.cond.a, .int .i64 r.cond.b, goneC (r.cond.args.map Cond.tencN)]
def goneL (i : Int) : Nat → List Rule → List AV
  | _, [] => []
  | k, r :: s => (if (k : Int) = i then r.tencN else r.goneN) :: goneL i (k + 1) s
theorem goneL_append (i : Int) : ∀ (s t : List Rule) (k : Nat), goneL i k (s ++ t) = goneL i k s ++ goneL i (k + s.length) t
  | [], t, k => by simp [goneL]
  | r :: s, t, k => by
    simp -implicitDefEqProofs only [List.cons_append, goneL, List.length_cons]
    rw [goneL_append i s t (k + 1)]
    have : k + 1 + s.length = k + (s.length + 1) := by omega
    rw [this]
theorem goneL_len (i : Int) : ∀ (s : List Rule) (k : Nat), (goneL i k s).length = s.length
  | [], k => rfl
  | r :: s, k => by simp -implicitDefEqProofs only [goneL, List.length_cons, goneL_len i s (k + 1)]
def rowAt (i : Int) (s : List Rule) (j : Nat) : List AV := goneL i 0 (s.take j) ++ (s.drop j).map Rule.tencN
theorem rowAt_zero {i : Int} {s : List Rule} : rowAt i s 0 = s.map Rule.tencN := by simp [rowAt, goneL]
theorem rowAt_len {i : Int} {s : List Rule} {j : Nat} : (rowAt i s j).length = s.length := by
  unfold rowAt
  rw [List.length_append, goneL_len, List.length_map, List.length_take, List.length_drop]
  omega
theorem rowAt_mid {i : Int} {s pre r : List Rule} {c : Rule} (h : s = pre ++ c :: r) : rowAt i s pre.length = goneL i 0 pre ++ c.tencN :: r.map Rule.tencN := by
  subst h
  unfold rowAt
  rw [List.take_left', List.drop_left'] <;> rfl
theorem rowAt_next {i : Int} {s pre r : List Rule} {c : Rule} (h : s = pre ++ c :: r) : rowAt i s (pre.length + 1) = goneL i 0 pre ++ (if (pre.length : Int) = i then c.tencN else c.goneN) :: r.map Rule.tencN := by
  have h1 : s = (pre ++ [c]) ++ r := by rw [h]; simp
  have h2 : pre.length + 1 = (pre ++ [c]).length := by simp
  unfold rowAt
  rw [h1, h2, List.take_left', List.drop_left', goneL_append] <;> first | rfl | skip
  rw [Nat.zero_add, List.append_assoc]
  rfl
theorem rowAt_at {i : Int} {s pre r : List Rule} {c : Rule} (h : s = pre ++ c :: r) : (rowAt i s pre.length)[pre.length]? = some c.tencN := by
  rw [rowAt_mid h, List.getElem?_append_right (by rw [goneL_len]; exact Nat.le_refl _), goneL_len, Nat.sub_self]
  rfl
theorem rowAt_set {i : Int} {s pre r : List Rule} {c : Rule} (h : s = pre ++ c :: r) (hi : (pre.length : Int) ≠ i) : (rowAt i s pre.length).set pre.length c.goneN = rowAt i s (pre.length + 1) := by
  rw [rowAt_mid h, rowAt_next h, if_neg hi, List.set_append_right _ _ (by rw [goneL_len]; exact Nat.le_refl _), goneL_len, Nat.sub_self]
  rfl
theorem rowAt_keep {i : Int} {s pre r : List Rule} {c : Rule} (h : s = pre ++ c :: r) (hi : (pre.length : Int) = i) : rowAt i s (pre.length + 1) = rowAt i s pre.length := by
  rw [rowAt_mid h, rowAt_next h, if_pos hi]
theorem rowAt_nil {i : Int} {s pre r : List Rule} {c : Rule} (h : s = pre ++ c :: r) (ha : c.cond.args.map Cond.tencN = []) : rowAt i s (pre.length + 1) = rowAt i s pre.length := by
  rw [rowAt_mid h, rowAt_next h]
  have : c.goneN = c.tencN := by unfold Rule.goneN Rule.tencN; rw [ha]; rfl
  rw [this]
  split <;> rfl
def dropI (s : List Rule) (i : Int) : List Rule := if 0 ≤ i ∧ i < (s.length : Int) then dropR s i.toNat else s
theorem dropLoopI (s : List Rule) (i : Int) : loopL (dropStep i) id 0 s [] = dropI s i := by
  unfold dropI
  by_cases h : 0 ≤ i ∧ i < (s.length : Int)
  · rw [if_pos h]
    have := dropLoop i.toNat s 0 [] (by omega)
    rw [Nat.sub_zero, List.nil_append, Int.toNat_of_nonneg h.1] at this
    exact this
  · rw [if_neg h]
    have key : ∀ (s : List Rule) (k : Nat) (b : List Rule), (i < (k : Int) ∨ (k : Int) + (s.length : Int) ≤ i) → loopL (dropStep i) id k s b = b ++ s := by
      intro s
      induction s with
      | nil => intro k b _; simp [loopL]
      | cons x t ih =>
        intro k b hk
        simp -implicitDefEqProofs only [List.length_cons] at hk
        have hne : ((k : Int) == i) = false := by simp; omega
        simp -implicitDefEqProofs only [loopL, dropStep, hne, Bool.not_false, if_true]
        rw [ih (k + 1) _ (by omega)]
        simp
    have := key s 0 [] (by omega)
    simpa using this
theorem dropI_w (s : List Rule) (i : Int) : wl Rule.w (dropI s i) ≤ wl Rule.w s := by
  unfold dropI
  split
  · exact dropR_w s _
  · exact Nat.le_refl _
theorem take_ruleT {e' sz' : Nat} {ys X : List AV} {j nid : Nat} {st : St} {a' b' c' d' e1 f' : Int}
    (hx : X[j]? = some (.agg [.int .i64 a', .int .i64 b', .int .i64 c', .int .i64 d', .int .i64 e1, .int .i64 f', .tr e' sz' ys])) {a2 b2 c2 d2 e2 f2 : Int} :
    St.take nid [.int .i64 a2, .int .i64 b2, .int .i64 c2, .int .i64 d2, .int .i64 e2, .int .i64 f2, .eptr true 0 false 43 7 X j 6] st =
      some (st.mapO (takenO 0 43 7 (X.set j (.agg [.int .i64 a', .int .i64 b', .int .i64 c', .int .i64 d', .int .i64 e1, .int .i64 f', .gone]))) .ptr (takenE nid 0 j 6 e' sz' ys)) := by
  simp -implicitDefEqProofs only [St.take, firstE, hx, Option.bind_some]
  rfl
theorem r_impl_WithoutRuleT (k : Nat) (hk : 290271069732864 + 8 ≤ k) (p : Policy) (hp : p.w ≤ 1099511627776) (i : Int) :
    run E noExt k 7 [p.enc true, .int .i64 i] [] = some (.agg [.int .i64 p.version, rowR 0 ((dropI p.rules i).map Rule.tencN)], []) := by
  have hw : wl Rule.w p.rules ≤ 1099511627776 := hp
  have hs1 := wl_length Rule.w p.rules
  have hs : p.rules.length ≤ 140737488355328 := by omega
  have c1 := r_impl_copyRules (fl := true) (k - 1) (by omega) p.rules hw
  have hL := dropLoopI p.rules i
  have hsc0 := tscals_NR p.rules
  obtain ⟨k, rfl⟩ : ∃ j, k = j + 1 := ⟨k - 1, by omega⟩
  rw [run_succ rfl rfl, body_eq (nt := 31) (fn := Go.Proofs.Try.f7) (by kernel_rfl) rfl rfl rfl rfl rfl rfl rfl rfl]
  simp -implicitDefEqProofs only [Nat.add_sub_cancel] at c1
  simp -implicitDefEqProofs only [W4, ↓D4, ↓DA, ↓DP, ↓DC, Go.Proofs.Try.f7, enc_Policy, c1, hsc0, SH, dedup, nodupB, idx, AV.rows, AV.rowss, AV.mapO, AV.mapOs, Int.reduceToNat, id_eq, Int.reduceBEq, Int.reduceLE, Int.reduceLT, Nat.reduceAdd, Nat.reduceEqDiff, Nat.reduceLT, Nat.reduceLeDiff, Nat.reduceMul, Nat.reduceSub, reduceIte]
  rw [ev_loop]
  refine Eq.trans (loop_list (Q := fun (g : List Rule) z => thenEnd E.P [] _ 0 (thenEv E _ _ _ _ _ (outOf 0 z)) = some (.agg [.int .i64 p.version, rowR 0 (g.map Rule.tencN)], [])) p.rules (dropStep i) id
    (fun j b => { sl := [(1, .int .i64 i), (4, .ptr 0 0), (5, .ptr 1 0), (13, .own 0 false 43 7 (rowAt i p.rules j)), (14, .int .i64 (p.rules.length : Nat)), (15, .int .i64 (j : Nat))], bx := [(0, [.int .i64 0, .nils]), (1, [.int .i64 p.version, rowR 1 (b.map Rule.tencN)])], nx := 3 + (rowR 1 (b.map Rule.tencN)).rows.length, nt := 31, tree := true })
    (fun j b => b.length ≤ j) [] ?_ ?_ (by omega) (by simp) ?_) ?_
  · intro b hb
    rcases Classical.em (b.map Rule.tencN = []) with h1 | h1
    · simp -implicitDefEqProofs only [h1, rowR_nil, id]
      simp -implicitDefEqProofs only [W3, ↓D3, ↓DA, ↓DP, ↓DC, QX, h1, rowR_nil, id, SH, leaf_some, isNormal, Int.reduceToNat, id_eq, Int.reduceBEq, Int.reduceLE, Int.reduceLT, Nat.reduceAdd, Nat.reduceEqDiff, Nat.reduceLT, Nat.reduceLeDiff, Nat.reduceMul, Nat.reduceSub, reduceIte]
      repeat' (split <;> (rename_i h; (try simp -implicitDefEqProofs only [Bool.not_eq_true', Bool.not_eq_false', decide_eq_true_eq, decide_eq_false_iff_not] at h); (try simp -implicitDefEqProofs only [W3, ↓D3, ↓DA, ↓DP, ↓DC, QX, *, h1, rowR_nil, id, SH, leaf_some, isNormal, Int.reduceToNat, id_eq, Int.reduceBEq, Int.reduceLE, Int.reduceLT, Nat.reduceAdd, Nat.reduceEqDiff, Nat.reduceLT, Nat.reduceLeDiff, Nat.reduceMul, Nat.reduceSub, reduceIte])))
    · simp -implicitDefEqProofs only [rowR_ne h1, id]
      simp -implicitDefEqProofs only [W3, ↓D3, ↓DA, ↓DP, ↓DC, QX, SH, leaf_some, isNormal, Int.reduceToNat, id_eq, Int.reduceBEq, Int.reduceLE, Int.reduceLT, Nat.reduceAdd, Nat.reduceEqDiff, Nat.reduceLT, Nat.reduceLeDiff, Nat.reduceMul, Nat.reduceSub, reduceIte]
      repeat' (split <;> (rename_i h; (try simp -implicitDefEqProofs only [Bool.not_eq_true', Bool.not_eq_false', decide_eq_true_eq, decide_eq_false_iff_not] at h); (try simp -implicitDefEqProofs only [W3, ↓D3, ↓DA, ↓DP, ↓DC, QX, *, SH, leaf_some, isNormal, Int.reduceToNat, id_eq, Int.reduceBEq, Int.reduceLE, Int.reduceLT, Nat.reduceAdd, Nat.reduceEqDiff, Nat.reduceLT, Nat.reduceLeDiff, Nat.reduceMul, Nat.reduceSub, reduceIte])))
  · intro pre c r b hs' hb
    have hx := (at_row hs' hs).1; have hc := (at_row hs' hs).2.1; have hlt := (at_row hs' hs).2.2.1; have hw1 := (at_row hs' hs).2.2.2.1; have hl9 := (at_row hs' hs).2.2.2.2
    have hrl := rowAt_len (i := i) (s := p.rules) (j := pre.length)
    have hat := rowAt_at (i := i) hs'
    have hnil := rowAt_nil (i := i) hs'
    have hkeep := rowAt_keep (i := i) hs'
    have hset := rowAt_set (i := i) hs'
    have hl2 : ((pre.length : Nat) : Int) < (((rowAt i p.rules pre.length).length : Nat) : Int) := by rw [hrl]; exact_mod_cast hlt
    clear hs'
    have hm1 : (b.length + 1) * 72 ≤ 140737488355328 := by omega
    have hm2 : b.length + 1 ≤ 9223372036854775807 := by omega
    have hm9 : b.length ≤ 9223372036854775806 := by omega
    have hst : dropStep i pre.length c b = .inr (if (!((pre.length : Int) == i)) = true then b ++ [c] else b) := rfl
    have hb1 : (b ++ [c]).length ≤ pre.length + 1 := by rw [List.length_append]; simp; omega
    generalize rowAt i p.rules pre.length = X at *
    generalize rowAt i p.rules (pre.length + 1) = X' at *
    have hcb : (b ++ [c]).map Rule.tencN = b.map Rule.tencN ++ [.agg [.int .i64 c.effect, .int .i64 c.action, .int .i64 c.object, .int .i64 c.cond.op, .int .i64 c.cond.a, .int .i64 c.cond.b, cellN (c.cond.args.map Cond.tencN)]] := by rw [List.map_append]; rfl
    have hbl : (b.map Rule.tencN).length = b.length := List.length_map _
    have hr1 : rowR 1 [c.tencN] = .own 1 false 43 7 [.agg [.int .i64 c.effect, .int .i64 c.action, .int .i64 c.object, .int .i64 c.cond.op, .int .i64 c.cond.a, .int .i64 c.cond.b, cellN (c.cond.args.map Cond.tencN)]] := rfl
    have hne : ∀ (l : List AV) (v : AV), rowR 1 (l ++ [v]) = .own 1 false 43 7 (l ++ [v]) := fun l v => rowR_ne (by simp)
    rw [tencN_rule] at hat
    cases e : ((pre.length : Int) == i)
    · simp -implicitDefEqProofs only [e, Bool.not_false, if_true] at hst
      have hset := hset (by simpa using e)
      unfold Rule.goneN at hset
      rcases Classical.em (c.cond.args.map Cond.tencN = []) with h2 | h2
      · have hX := hnil h2
        subst hX
        rw [h2, cellN_nil] at hat hcb hr1
        rcases Classical.em (b = []) with h1 | h1
        · subst h1
          simp -implicitDefEqProofs only [List.map_nil, rowR_nil]
          simp -implicitDefEqProofs only [W3, ↓D3, ↓DA, ↓DP, ↓DC, QX, hat, hl2, hlt, hw1, e, hst, bne, hr1, hne, hm1, hm2, hm9, SH, keep_7_3, leaf_some, isNormal, Int.reduceToNat, id_eq, Int.reduceBEq, Int.reduceLE, Int.reduceLT, Nat.reduceAdd, Nat.reduceEqDiff, Nat.reduceLT, Nat.reduceLeDiff, Nat.reduceMul, Nat.reduceSub, reduceIte]
          repeat' (split <;> (rename_i h; (try simp -implicitDefEqProofs only [Bool.not_eq_true', Bool.not_eq_false', decide_eq_true_eq, decide_eq_false_iff_not] at h); (try simp -implicitDefEqProofs only [W3, ↓D3, ↓DA, ↓DP, ↓DC, QX, *, hat, hl2, hlt, hw1, e, hst, bne, hr1, hne, hm1, hm2, hm9, SH, keep_7_3, leaf_some, isNormal, Int.reduceToNat, id_eq, Int.reduceBEq, Int.reduceLE, Int.reduceLT, Nat.reduceAdd, Nat.reduceEqDiff, Nat.reduceLT, Nat.reduceLeDiff, Nat.reduceMul, Nat.reduceSub, reduceIte])))
          all_goals (first | exact hb1 | rfl | (simp; done) | omega)
        · have h1' : b.map Rule.tencN ≠ [] := fun e => h1 (List.map_eq_nil_iff.1 e)
          simp -implicitDefEqProofs only [rowR_ne h1']
          simp -implicitDefEqProofs only [W3, ↓D3, ↓DA, ↓DP, ↓DC, QX, hat, hl2, hlt, hw1, e, hst, bne, hcb, hne, hbl, hm1, hm2, hm9, SH, keep_7_3, leaf_some, isNormal, Int.reduceToNat, id_eq, Int.reduceBEq, Int.reduceLE, Int.reduceLT, Nat.reduceAdd, Nat.reduceEqDiff, Nat.reduceLT, Nat.reduceLeDiff, Nat.reduceMul, Nat.reduceSub, reduceIte]
          repeat' (split <;> (rename_i h; (try simp -implicitDefEqProofs only [Bool.not_eq_true', Bool.not_eq_false', decide_eq_true_eq, decide_eq_false_iff_not] at h); (try simp -implicitDefEqProofs only [W3, ↓D3, ↓DA, ↓DP, ↓DC, QX, *, hat, hl2, hlt, hw1, e, hst, bne, hcb, hne, hbl, hm1, hm2, hm9, SH, keep_7_3, leaf_some, isNormal, Int.reduceToNat, id_eq, Int.reduceBEq, Int.reduceLE, Int.reduceLT, Nat.reduceAdd, Nat.reduceEqDiff, Nat.reduceLT, Nat.reduceLeDiff, Nat.reduceMul, Nat.reduceSub, reduceIte])))
          all_goals (first | exact hb1 | rfl | (simp; done) | omega)
      · have hsc := tscals_N c.cond.args
        rw [cellN_ne h2] at hat hcb hr1
        rw [goneC_ne h2] at hset
        have htk := fun st nid a2 b2 c2 d2 e2 f2 => take_ruleT (st := st) (nid := nid) (a2 := a2) (b2 := b2) (c2 := c2) (d2 := d2) (e2 := e2) (f2 := f2) hat
        rcases Classical.em (b = []) with h1 | h1
        · subst h1
          simp -implicitDefEqProofs only [List.map_nil, rowR_nil]
          simp -implicitDefEqProofs only [W3, ↓D3, ↓DA, ↓DP, ↓DC, QX, hat, hl2, hlt, hw1, e, hst, bne, hr1, hne, htk, hset, mapO_mk, takenO, takenE, hsc, takeT_none, Option.bind_none, hm1, hm2, hm9, SH, keep_7_3, leaf_some, isNormal, Int.reduceToNat, id_eq, Int.reduceBEq, Int.reduceLE, Int.reduceLT, Nat.reduceAdd, Nat.reduceEqDiff, Nat.reduceLT, Nat.reduceLeDiff, Nat.reduceMul, Nat.reduceSub, reduceIte]
          repeat' (split <;> (rename_i h; (try simp -implicitDefEqProofs only [Bool.not_eq_true', Bool.not_eq_false', decide_eq_true_eq, decide_eq_false_iff_not] at h); (try simp -implicitDefEqProofs only [W3, ↓D3, ↓DA, ↓DP, ↓DC, QX, *, hat, hl2, hlt, hw1, e, hst, bne, hr1, hne, htk, hset, mapO_mk, takenO, takenE, hsc, takeT_none, Option.bind_none, hm1, hm2, hm9, SH, keep_7_3, leaf_some, isNormal, Int.reduceToNat, id_eq, Int.reduceBEq, Int.reduceLE, Int.reduceLT, Nat.reduceAdd, Nat.reduceEqDiff, Nat.reduceLT, Nat.reduceLeDiff, Nat.reduceMul, Nat.reduceSub, reduceIte])))
          all_goals (first | exact hb1 | rfl | (simp; done) | omega)
        · have h1' : b.map Rule.tencN ≠ [] := fun e => h1 (List.map_eq_nil_iff.1 e)
          simp -implicitDefEqProofs only [rowR_ne h1']
          simp -implicitDefEqProofs only [W3, ↓D3, ↓DA, ↓DP, ↓DC, QX, hat, hl2, hlt, hw1, e, hst, bne, hcb, hne, hbl, htk, hset, mapO_mk, takenO, takenE, hsc, takeT_none, Option.bind_none, hm1, hm2, hm9, SH, keep_7_3, leaf_some, isNormal, Int.reduceToNat, id_eq, Int.reduceBEq, Int.reduceLE, Int.reduceLT, Nat.reduceAdd, Nat.reduceEqDiff, Nat.reduceLT, Nat.reduceLeDiff, Nat.reduceMul, Nat.reduceSub, reduceIte]
          repeat' (split <;> (rename_i h; (try simp -implicitDefEqProofs only [Bool.not_eq_true', Bool.not_eq_false', decide_eq_true_eq, decide_eq_false_iff_not] at h); (try simp -implicitDefEqProofs only [W3, ↓D3, ↓DA, ↓DP, ↓DC, QX, *, hat, hl2, hlt, hw1, e, hst, bne, hcb, hne, hbl, htk, hset, mapO_mk, takenO, takenE, hsc, takeT_none, Option.bind_none, hm1, hm2, hm9, SH, keep_7_3, leaf_some, isNormal, Int.reduceToNat, id_eq, Int.reduceBEq, Int.reduceLE, Int.reduceLT, Nat.reduceAdd, Nat.reduceEqDiff, Nat.reduceLT, Nat.reduceLeDiff, Nat.reduceMul, Nat.reduceSub, reduceIte])))
          all_goals (first | exact hb1 | rfl | (simp; done) | omega)
    · simp -implicitDefEqProofs only [e, Bool.not_true, Bool.false_eq_true, if_false] at hst
      have hX := hkeep (by simpa using e)
      subst hX
      rcases Classical.em (c.cond.args.map Cond.tencN = []) with h2 | h2
      · rw [h2, cellN_nil] at hat
        rcases Classical.em (b.map Rule.tencN = []) with h1 | h1
        · simp -implicitDefEqProofs only [h1, rowR_nil]
          simp -implicitDefEqProofs only [W3, ↓D3, ↓DA, ↓DP, ↓DC, QX, hat, hl2, hlt, hw1, e, hst, bne, h1, rowR_nil, SH, keep_7_3, leaf_some, isNormal, Int.reduceToNat, id_eq, Int.reduceBEq, Int.reduceLE, Int.reduceLT, Nat.reduceAdd, Nat.reduceEqDiff, Nat.reduceLT, Nat.reduceLeDiff, Nat.reduceMul, Nat.reduceSub, reduceIte]
          repeat' (split <;> (rename_i h; (try simp -implicitDefEqProofs only [Bool.not_eq_true', Bool.not_eq_false', decide_eq_true_eq, decide_eq_false_iff_not] at h); (try simp -implicitDefEqProofs only [W3, ↓D3, ↓DA, ↓DP, ↓DC, QX, *, hat, hl2, hlt, hw1, e, hst, bne, h1, rowR_nil, SH, keep_7_3, leaf_some, isNormal, Int.reduceToNat, id_eq, Int.reduceBEq, Int.reduceLE, Int.reduceLT, Nat.reduceAdd, Nat.reduceEqDiff, Nat.reduceLT, Nat.reduceLeDiff, Nat.reduceMul, Nat.reduceSub, reduceIte])))
          all_goals (first | (simp; done) | omega)
        · simp -implicitDefEqProofs only [rowR_ne h1]
          simp -implicitDefEqProofs only [W3, ↓D3, ↓DA, ↓DP, ↓DC, QX, hat, hl2, hlt, hw1, e, hst, bne, rowR_ne h1, SH, keep_7_3, leaf_some, isNormal, Int.reduceToNat, id_eq, Int.reduceBEq, Int.reduceLE, Int.reduceLT, Nat.reduceAdd, Nat.reduceEqDiff, Nat.reduceLT, Nat.reduceLeDiff, Nat.reduceMul, Nat.reduceSub, reduceIte]
          repeat' (split <;> (rename_i h; (try simp -implicitDefEqProofs only [Bool.not_eq_true', Bool.not_eq_false', decide_eq_true_eq, decide_eq_false_iff_not] at h); (try simp -implicitDefEqProofs only [W3, ↓D3, ↓DA, ↓DP, ↓DC, QX, *, hat, hl2, hlt, hw1, e, hst, bne, rowR_ne h1, SH, keep_7_3, leaf_some, isNormal, Int.reduceToNat, id_eq, Int.reduceBEq, Int.reduceLE, Int.reduceLT, Nat.reduceAdd, Nat.reduceEqDiff, Nat.reduceLT, Nat.reduceLeDiff, Nat.reduceMul, Nat.reduceSub, reduceIte])))
          all_goals (first | (simp; done) | omega)
      · rw [cellN_ne h2] at hat
        rcases Classical.em (b.map Rule.tencN = []) with h1 | h1
        · simp -implicitDefEqProofs only [h1, rowR_nil]
          simp -implicitDefEqProofs only [W3, ↓D3, ↓DA, ↓DP, ↓DC, QX, hat, hl2, hlt, hw1, e, hst, bne, h1, rowR_nil, SH, keep_7_3, leaf_some, isNormal, Int.reduceToNat, id_eq, Int.reduceBEq, Int.reduceLE, Int.reduceLT, Nat.reduceAdd, Nat.reduceEqDiff, Nat.reduceLT, Nat.reduceLeDiff, Nat.reduceMul, Nat.reduceSub, reduceIte]
          repeat' (split <;> (rename_i h; (try simp -implicitDefEqProofs only [Bool.not_eq_true', Bool.not_eq_false', decide_eq_true_eq, decide_eq_false_iff_not] at h); (try simp -implicitDefEqProofs only [W3, ↓D3, ↓DA, ↓DP, ↓DC, QX, *, hat, hl2, hlt, hw1, e, hst, bne, h1, rowR_nil, SH, keep_7_3, leaf_some, isNormal, Int.reduceToNat, id_eq, Int.reduceBEq, Int.reduceLE, Int.reduceLT, Nat.reduceAdd, Nat.reduceEqDiff, Nat.reduceLT, Nat.reduceLeDiff, Nat.reduceMul, Nat.reduceSub, reduceIte])))
          all_goals (first | (simp; done) | omega)
        · simp -implicitDefEqProofs only [rowR_ne h1]
          simp -implicitDefEqProofs only [W3, ↓D3, ↓DA, ↓DP, ↓DC, QX, hat, hl2, hlt, hw1, e, hst, bne, rowR_ne h1, SH, keep_7_3, leaf_some, isNormal, Int.reduceToNat, id_eq, Int.reduceBEq, Int.reduceLE, Int.reduceLT, Nat.reduceAdd, Nat.reduceEqDiff, Nat.reduceLT, Nat.reduceLeDiff, Nat.reduceMul, Nat.reduceSub, reduceIte]
          repeat' (split <;> (rename_i h; (try simp -implicitDefEqProofs only [Bool.not_eq_true', Bool.not_eq_false', decide_eq_true_eq, decide_eq_false_iff_not] at h); (try simp -implicitDefEqProofs only [W3, ↓D3, ↓DA, ↓DP, ↓DC, QX, *, hat, hl2, hlt, hw1, e, hst, bne, rowR_ne h1, SH, keep_7_3, leaf_some, isNormal, Int.reduceToNat, id_eq, Int.reduceBEq, Int.reduceLE, Int.reduceLT, Nat.reduceAdd, Nat.reduceEqDiff, Nat.reduceLT, Nat.reduceLeDiff, Nat.reduceMul, Nat.reduceSub, reduceIte])))
          all_goals (first | (simp; done) | omega)
  · simp -implicitDefEqProofs only [firstRegion]
    rw [keep_7_3]
    simp -implicitDefEqProofs only [W3, ↓D3, ↓DA, ↓DP, ↓DC, rowAt_zero, rowR_nil, Int.reduceToNat, id_eq, Int.reduceBEq, Int.reduceLE, Int.reduceLT, SH, Nat.reduceAdd, Nat.reduceEqDiff, Nat.reduceLT, Nat.reduceLeDiff, Nat.reduceMul, Nat.reduceSub, reduceIte]
  · rw [hL]
theorem dropI_in {s : List Rule} {i : Int} (h : 0 ≤ i ∧ i < (s.length : Int)) : dropI s i = dropR s i.toNat := by unfold dropI; rw [if_pos h]
theorem dropI_out {s : List Rule} {i : Int} (h : ¬ (0 ≤ i ∧ i < (s.length : Int))) : dropI s i = s := by unfold dropI; rw [if_neg h]
theorem r_spec_WithoutRuleIn (k : Nat) (hk : 290271069732864 + 8 ≤ k) (p : Policy) (hp : p.w ≤ 1099511627776) (i : Int) (hi : 0 ≤ i ∧ i < (p.rules.length : Int)) :
    run E noExt k 5 [p.enc true, .int .i64 i] [] = some (.agg [.int .i64 p.version, .own 0 false 43 7 ((dropI p.rules i).map (Rule.enc true))], []) := by
  have h := r_spec_WithoutRule k hk p hp i.toNat (by omega)
  rw [Int.toNat_of_nonneg hi.1] at h
  rw [dropI_in hi]
  exact h
theorem r_spec_WithoutRuleOut (k : Nat) (hk : 290271069732864 + 8 ≤ k) (p : Policy) (hp : p.w ≤ 1099511627776) (i : Int) (hi : ¬ (0 ≤ i ∧ i < (p.rules.length : Int))) :
    run E noExt k 5 [p.enc true, .int .i64 i] [] = some (.agg [.int .i64 p.version, rowR 0 (p.rules.map Rule.tencN)], []) := by
  have hw : wl Rule.w p.rules ≤ 1099511627776 := hp
  have hs1 := wl_length Rule.w p.rules
  have hs : p.rules.length ≤ 140737488355328 := by omega
  have c1 := r_spec_l19Copy (fl := true) (k - 1) (by omega) p hp
  have c2 := r_spec_l1In (k - 1) (by omega) i 0 ((p.rules.length : Int) - 1)
  have hin : inR i 0 ((p.rules.length : Int) - 1) = false := by
    unfold inR
    rw [Bool.and_eq_false_iff, decide_eq_false_iff_not, decide_eq_false_iff_not]
    omega
  rw [hin] at c2
  have hwr : IntKind.i64.wrap ((p.rules.length : Int) - 1) = (p.rules.length : Int) - 1 := IntWalk.i64_in _ (by omega)
  have hsc := tscals_NR p.rules
  obtain ⟨k, rfl⟩ : ∃ j, k = j + 1 := ⟨k - 1, by omega⟩
  rw [run_succ rfl rfl, body_eq (nt := 28) (fn := Go.Proofs.Try.f5) (by kernel_rfl) rfl rfl rfl rfl rfl rfl rfl rfl]
  simp -implicitDefEqProofs only [Nat.add_sub_cancel, enc_Policy] at c1 c2
  simp -implicitDefEqProofs only [enc_Policy]
  rcases Classical.em (p.rules.map Rule.tencN = []) with h2 | h2
  · rw [h2] at c1 ⊢
    rw [rowR_nil] at c1 ⊢
    simp -implicitDefEqProofs only [W3, ↓D3, ↓DA, ↓DP, ↓DC, Go.Proofs.Try.f5, c1, c2, hsc, hwr, plan_5_3, SH, Int.reduceToNat, id_eq, Int.reduceBEq, Int.reduceLE, Int.reduceLT, Nat.reduceAdd, Nat.reduceEqDiff, Nat.reduceLT, Nat.reduceLeDiff, Nat.reduceMul, Nat.reduceSub, reduceIte]
  · rw [rowR_ne h2] at c1 ⊢
    simp -implicitDefEqProofs only [W3, ↓D3, ↓DA, ↓DP, ↓DC, Go.Proofs.Try.f5, c1, c2, hsc, hwr, plan_5_3, SH, Int.reduceToNat, id_eq, Int.reduceBEq, Int.reduceLE, Int.reduceLT, Nat.reduceAdd, Nat.reduceEqDiff, Nat.reduceLT, Nat.reduceLeDiff, Nat.reduceMul, Nat.reduceSub, reduceIte]
theorem evCall_mutNil {Φ : Phi} {nid n : Nat} {v : AV} {dst : Option Nat} {st : St} : evCall Φ [.mut, .ro] nid n [.nils, v] [] dst st = evGive Φ nid n [(.mut, .nils), (.ro, v)] dst st := rfl
theorem r_laws_markRuleS_nil (k : Nat) (hk : 281474976710656 + 1 ≤ k) (z : Int) :
    run E noExt k 17 [.nils, .int .i64 z] [] = some (.int .i64 z, [[.nils]]) := by
  obtain ⟨k, rfl⟩ : ∃ j, k = j + 1 := ⟨k - 1, by omega⟩
  rw [run_succ rfl rfl, body_eq (nt := 66) (fn := Go.Proofs.Try.f17) (by kernel_rfl) rfl rfl rfl rfl rfl rfl rfl rfl]
  simp -implicitDefEqProofs only [W4, ↓D4, ↓DA, ↓DP, ↓DC, Go.Proofs.Try.f17, SH, dedup, nodupB, idx, AV.rows, AV.rowss, AV.mapO, AV.mapOs, Int.reduceToNat, id_eq, Int.reduceBEq, Int.reduceLE, Int.reduceLT, Nat.reduceAdd, Nat.reduceEqDiff, Nat.reduceLT, Nat.reduceLeDiff, Nat.reduceMul, Nat.reduceSub, reduceIte]
  rw [ev_loop]
  refine Eq.trans (loop_list (Q := fun (_ : Unit) x => thenEnd E.P _ _ 0 (thenEv E _ _ _ _ _ (outOf 0 x)) = some (.int .i64 z, [[.nils]])) ([] : List Unit) (fun _ _ _ => .inr ()) id
    (fun i _ => { sl := [(0, .nils), (1, .int .i64 z), (5, .int .i64 (i : Nat))], bx := [], nx := 0, nt := 66 }) (fun _ _ => True) () ?_ ?_ (by simp; omega) trivial ?_) rfl
  · intro _ _
    simp -implicitDefEqProofs only [W3, ↓D3, ↓DA, ↓DP, ↓DC, QX, SH, leaf_some, isNormal, Int.reduceToNat, id_eq, Int.reduceBEq, Int.reduceLE, Int.reduceLT, Nat.reduceAdd, Nat.reduceEqDiff, Nat.reduceLT, Nat.reduceLeDiff, Nat.reduceMul, Nat.reduceSub, reduceIte]
    repeat' (split <;> (rename_i h; (try simp -implicitDefEqProofs only [Bool.not_eq_true', Bool.not_eq_false', decide_eq_true_eq, decide_eq_false_iff_not] at h); (try simp -implicitDefEqProofs only [W3, ↓D3, ↓DA, ↓DP, ↓DC, QX, *, SH, leaf_some, isNormal, Int.reduceToNat, id_eq, Int.reduceBEq, Int.reduceLE, Int.reduceLT, Nat.reduceAdd, Nat.reduceEqDiff, Nat.reduceLT, Nat.reduceLeDiff, Nat.reduceMul, Nat.reduceSub, reduceIte])))
    rw [finish_mut1 rfl]
    simp -implicitDefEqProofs only [W3, ↓D3, ↓DA, ↓DP, ↓DC, finC, Int.reduceToNat, id_eq, Int.reduceBEq, Int.reduceLE, Int.reduceLT, SH, Nat.reduceAdd, Nat.reduceEqDiff, Nat.reduceLT, Nat.reduceLeDiff, Nat.reduceMul, Nat.reduceSub, reduceIte]
  · intro pre c r _ hs' _
    simp at hs'
  · simp -implicitDefEqProofs only [firstRegion]
    rw [keep_17_2]
    simp -implicitDefEqProofs only [W3, ↓D3, ↓DA, ↓DP, ↓DC, Int.reduceToNat, id_eq, Int.reduceBEq, Int.reduceLE, Int.reduceLT, SH, Nat.reduceAdd, Nat.reduceEqDiff, Nat.reduceLT, Nat.reduceLeDiff, Nat.reduceMul, Nat.reduceSub, reduceIte]
theorem r_laws_markPolicyN (k : Nat) (v : Int) (s : List Rule) (hk : 281474976710656 + 4 * wl Rule.w s + 4 ≤ k) (z : Int) (hz : 0 ≤ z ∧ z + (sumG ruleW s : Nat) ≤ 4398046511104) (hs : s ≠ []) :
    run E noExt k 9 [.agg [.int .i64 v, .own 0 false 43 7 (s.map Rule.tencN)], .int .i64 z] [] = some (.int .i64 (z + ((sumG ruleW s : Nat) : Int)), [[.agg [.int .i64 v, .own 0 false 43 7 ((mksG ruleMk ruleW z s).map Rule.tencN)]]]) := by
  have c1 := r_laws_markRuleSN (k - 1) s (by omega) z hz
  have hsc := tscals_NR (mksG ruleMk ruleW z s)
  obtain ⟨k, rfl⟩ : ∃ j, k = j + 1 := ⟨k - 1, by omega⟩
  rw [run_succ rfl rfl, body_eq (nt := 10) (fn := Go.Proofs.Try.f9) (by kernel_rfl) rfl rfl rfl rfl rfl rfl rfl rfl]
  simp -implicitDefEqProofs only [Nat.add_sub_cancel] at c1
  simp -implicitDefEqProofs only [W3, ↓D3, ↓DA, ↓DP, ↓DC, Go.Proofs.Try.f9, c1, hsc, Int.reduceToNat, id_eq, Int.reduceBEq, Int.reduceLE, Int.reduceLT, look_cons, reduceCtorEq, evCall_mutOwn, evCall_mutAgg, evGive, giveRows, ioBoxes, mutArgs, roArgs, handArg, mutSlots, isPtrB, pairs, pairss, back_nil, back_cons, backO, backE, setBoxes, importB, mode_mut, mode_give, mode_io, mode_ro, List.zip_cons_cons, List.zip_nil_left, List.zip_nil_right, ite_self, ite_true, ite_false, finish_give, finish_mut1, finish_io0, finish_io1, finish_io2, finish_io3, finish_ioc, finI, finC, finW_ptr, SH, Nat.reduceAdd, Nat.reduceEqDiff, Nat.reduceLT, Nat.reduceLeDiff, Nat.reduceMul, Nat.reduceSub, reduceIte]
  rw [finish_mut1 rfl]
  simp -implicitDefEqProofs only [W3, ↓D3, ↓DA, ↓DP, ↓DC, finC, Int.reduceToNat, id_eq, Int.reduceBEq, Int.reduceLE, Int.reduceLT, SH, Nat.reduceAdd, Nat.reduceEqDiff, Nat.reduceLT, Nat.reduceLeDiff, Nat.reduceMul, Nat.reduceSub, reduceIte]
theorem r_laws_markPolicy_nil (k : Nat) (v : Int) (hk : 281474976710656 + 4 ≤ k) (z : Int) :
    run E noExt k 9 [.agg [.int .i64 v, .nils], .int .i64 z] [] = some (.int .i64 z, [[.agg [.int .i64 v, .nils]]]) := by
  have c1 := r_laws_markRuleS_nil (k - 1) (by omega) z
  obtain ⟨k, rfl⟩ : ∃ j, k = j + 1 := ⟨k - 1, by omega⟩
  rw [run_succ rfl rfl, body_eq (nt := 10) (fn := Go.Proofs.Try.f9) (by kernel_rfl) rfl rfl rfl rfl rfl rfl rfl rfl]
  simp -implicitDefEqProofs only [Nat.add_sub_cancel] at c1
  simp -implicitDefEqProofs only [W3, ↓D3, ↓DA, ↓DP, ↓DC, Go.Proofs.Try.f9, c1, evCall_mutNil, Int.reduceToNat, id_eq, Int.reduceBEq, Int.reduceLE, Int.reduceLT, look_cons, reduceCtorEq, evCall_mutOwn, evCall_mutAgg, evGive, giveRows, ioBoxes, mutArgs, roArgs, handArg, mutSlots, isPtrB, pairs, pairss, back_nil, back_cons, backO, backE, setBoxes, importB, mode_mut, mode_give, mode_io, mode_ro, List.zip_cons_cons, List.zip_nil_left, List.zip_nil_right, ite_self, ite_true, ite_false, finish_give, finish_mut1, finish_io0, finish_io1, finish_io2, finish_io3, finish_ioc, finI, finC, finW_ptr, SH, Nat.reduceAdd, Nat.reduceEqDiff, Nat.reduceLT, Nat.reduceLeDiff, Nat.reduceMul, Nat.reduceSub, reduceIte]
  rw [finish_mut1 rfl]
  simp -implicitDefEqProofs only [W3, ↓D3, ↓DA, ↓DP, ↓DC, finC, Int.reduceToNat, id_eq, Int.reduceBEq, Int.reduceLE, Int.reduceLT, SH, Nat.reduceAdd, Nat.reduceEqDiff, Nat.reduceLT, Nat.reduceLeDiff, Nat.reduceMul, Nat.reduceSub, reduceIte]
theorem r_laws_heldPolicy_nil {fl : Bool} (k : Nat) (v : Int) (hk : 281474976710656 + 4 ≤ k) (z : Int) (hz : 0 ≤ z ∧ z ≤ 4398046511104) :
    run E noExt k 10 [.agg [.int .i64 v, .sl fl []], .int .i64 z] [] = some (.int .i64 z, []) := by
  have h := r_laws_heldPolicy (fl := fl) k ⟨v, []⟩ (by simp -implicitDefEqProofs only [Policy.w, wl]; omega) z (by simp -implicitDefEqProofs only [sumG]; omega)
  simpa [enc_Policy, mksG, sumG] using h
theorem after_refW {nid : Nat} {dst : Option Nat} {st : St} {args : List AV} {ret : AV} (hs : small ret = true) (hp : args.any (·.any isPtr) = false) (hn : noref ret = false) : afterRo nid dst st args (some (ret, [])) = (st.freeze (args.flatMap AV.rows)).put dst (import_ nid ret) := by
  simp -implicitDefEqProofs only [afterRo, hs, if_true, hn, hp, Bool.false_eq_true, if_false]
theorem dropI_sum (s : List Rule) (i : Int) : sumG ruleW (dropI s i) ≤ 6 * wl Rule.w s := by
  have := sum_rule (dropI s i)
  have := dropI_w s i
  omega
end Go.Proofs.Ytkolknigffoleaa.Flat
