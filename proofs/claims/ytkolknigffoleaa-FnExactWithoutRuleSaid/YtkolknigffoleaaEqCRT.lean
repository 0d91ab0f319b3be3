/-
Conditions, copied.
-/
import Derived.Test.YtkolknigffoleaaEqYT
set_option linter.unusedVariables false
set_option linter.unusedSimpArgs false
set_option maxRecDepth 10000
namespace Go.Proofs.Ytkolknigffoleaa.Flat
def cellN : List AV → AV
  | [] => .sl true []
  | v :: vs => .tr 41 4 (v :: vs)
def rowN (id : Nat) : List AV → AV
  | [] => .nils
  | v :: vs => .own id false 41 4 (v :: vs)
theorem cellN_nil : cellN [] = .sl true [] := rfl
theorem cellN_ne {vs : List AV} (h : vs ≠ []) : cellN vs = .tr 41 4 vs := by cases vs with | nil => exact absurd rfl h | cons => rfl
theorem rowN_nil {id : Nat} : rowN id [] = .nils := rfl
theorem rowN_ne {id : Nat} {vs : List AV} (h : vs ≠ []) : rowN id vs = .own id false 41 4 vs := by cases vs with | nil => exact absurd rfl h | cons => rfl
mutual
def Cond.tencN : Cond → AV
  | ⟨o, a, b, s⟩ => .agg [.int .i64 o, .int .i64 a, .int .i64 b, cellN (Cond.tencNs s)]
def Cond.tencNs : List Cond → List AV
  | [] => []
  | c :: r => c.tencN :: Cond.tencNs r
end
theorem tencNs_map (s : List Cond) : Cond.tencNs s = s.map Cond.tencN := by
  induction s with
  | nil => simp [Cond.tencNs]
  | cons c r ih => simp [Cond.tencNs, ih]
theorem tencN_eq {x : Cond} : x.tencN = .agg [.int .i64 x.op, .int .i64 x.a, .int .i64 x.b, cellN (x.args.map Cond.tencN)] := by
  cases x
  simp -implicitDefEqProofs only [Cond.tencN, tencNs_map]
theorem shut_cellN {vs : List AV} : (cellN vs).shut = .sl true (AV.shuts vs) := by cases vs <;> rfl
theorem scal_cellN {vs : List AV} (h : AV.scals vs = true) : (cellN vs).scal = true := by cases vs with | nil => rfl | cons => simpa [cellN, AV.scal] using h
theorem tshut_N (x : Cond) : x.tencN.shut = x.enc true := by
  induction x using Cond.induct with
  | h x ih =>
    rw [tencN_eq, enc_Cond]
    have h : ∀ s : List Cond, (∀ c ∈ s, c.tencN.shut = c.enc true) → AV.shuts (s.map Cond.tencN) = s.map (Cond.enc true) := by
      intro s
      induction s with
      | nil => intro _; rfl
      | cons c r ihr => intro hc; simp -implicitDefEqProofs only [List.map_cons, AV.shuts]; rw [hc c (by simp), ihr fun d hd => hc d (List.mem_cons_of_mem _ hd)]
    simp -implicitDefEqProofs only [AV.shut, AV.shuts, shut_cellN, h x.args ih]
theorem tshuts_N {l : List Cond} : AV.shuts (l.map Cond.tencN) = l.map (Cond.enc true) := by
  induction l with
  | nil => rfl
  | cons c r ih => simp -implicitDefEqProofs only [List.map_cons, AV.shuts, ih, tshut_N]
theorem tscal_N (x : Cond) : x.tencN.scal = true := by
  induction x using Cond.induct with
  | h x ih =>
    rw [tencN_eq]
    have h : ∀ s : List Cond, (∀ c ∈ s, c.tencN.scal = true) → AV.scals (s.map Cond.tencN) = true := by
      intro s
      induction s with
      | nil => intro _; rfl
      | cons c r ihr => intro hc; simp -implicitDefEqProofs only [List.map_cons, AV.scals]; rw [hc c (by simp), ihr fun d hd => hc d (List.mem_cons_of_mem _ hd)]; rfl
    simp -implicitDefEqProofs only [AV.scal, AV.scals, scal_cellN (h x.args ih), Bool.and_self]
theorem tscals_N (s : List Cond) : AV.scals (s.map Cond.tencN) = true := by
  induction s with
  | nil => rfl
  | cons c r ih => simp -implicitDefEqProofs only [List.map_cons, AV.scals, ih, Bool.and_true, tscal_N]
def Cond.copyAV (x : Cond) : AV := .agg [.int .i64 x.op, .int .i64 x.a, .int .i64 x.b, rowN 0 (x.args.map Cond.tencN)]
theorem r_impl_copyCond0 {fl : Bool} (x : Cond) : ∀ k, 281474976710656 + 4 * x.w + 2 ≤ k → x.w ≤ 1099511627776 → run E noExt k 22 [x.enc fl] [] = some (x.copyAV, []) := by
  induction x using Cond.induct with
  | h x ih =>
    intro k hk hx
    rw [x.w_eq] at hk hx
    have hs1 := wl_length Cond.w x.args
    have hs : x.args.length ≤ 140737488355328 := by omega
    have cc := fun c hc => ih c hc (k - 1) (by have := wl_mem (w := Cond.w) hc; omega) (by have := wl_mem (w := Cond.w) hc; omega)
    unfold Cond.copyAV at cc ⊢
    obtain ⟨k, rfl⟩ : ∃ j, k = j + 1 := ⟨k - 1, by omega⟩
    rw [run_succ rfl rfl, body_eq (nt := 29) (fn := Go.Proofs.Try.f22) (by kernel_rfl) rfl rfl rfl rfl rfl rfl rfl rfl]
    simp -implicitDefEqProofs only [Nat.add_sub_cancel, enc_Cond] at cc
    clear ih
    simp -implicitDefEqProofs only [W4, ↓D4, ↓DA, ↓DP, ↓DC, Go.Proofs.Try.f22, enc_Cond, SH, dedup, nodupB, idx, AV.rows, AV.rowss, AV.mapO, AV.mapOs, Int.reduceToNat, id_eq, Int.reduceBEq, Int.reduceLE, Int.reduceLT, Nat.reduceAdd, Nat.reduceEqDiff, Nat.reduceLT, Nat.reduceLeDiff, Nat.reduceMul, Nat.reduceSub, reduceIte]
    rw [ev_loop]
    refine loop_list (Q := fun (_ : Unit) z => thenEnd E.P [] _ 0 (thenEv E _ _ _ _ _ (outOf 0 z)) = some (.agg [.int .i64 x.op, .int .i64 x.a, .int .i64 x.b, rowN 0 (x.args.map Cond.tencN)], [])) x.args (fun _ _ _ => .inr ()) id
      (fun i _ => { sl := [(2, .ptr 0 0), (3, .ptr 1 0), (14, .sl fl (x.args.map (Cond.enc fl))), (15, .int .i64 (x.args.length : Nat)), (16, .int .i64 (i : Nat))], bx := [(0, [.int .i64 0, .int .i64 0, .int .i64 0, .nils]), (1, [.int .i64 x.op, .int .i64 x.a, .int .i64 x.b, rowN 0 ((x.args.take i).map Cond.tencN)])], nx := (AV.rows (rowN 0 ((x.args.take i).map Cond.tencN))).length + 2, nt := 29, tree := true }) (fun _ _ => True) () ?_ ?_ ?_ trivial ?_
    · intro _ _
      rcases Classical.em (x.args = []) with h | h
      · simp -implicitDefEqProofs only [h, List.take_nil, List.map_nil, rowN_nil, List.length_nil]
        simp -implicitDefEqProofs only [W3, ↓D3, ↓DA, ↓DP, ↓DC, QX, SH, leaf_some, isNormal, Int.reduceToNat, id_eq, Int.reduceBEq, Int.reduceLE, Int.reduceLT, Nat.reduceAdd, Nat.reduceEqDiff, Nat.reduceLT, Nat.reduceLeDiff, Nat.reduceMul, Nat.reduceSub, reduceIte]
        repeat' (split <;> (rename_i h; (try simp -implicitDefEqProofs only [Bool.not_eq_true', Bool.not_eq_false', decide_eq_true_eq, decide_eq_false_iff_not] at h); (try simp -implicitDefEqProofs only [W3, ↓D3, ↓DA, ↓DP, ↓DC, QX, *, SH, leaf_some, isNormal, Int.reduceToNat, id_eq, Int.reduceBEq, Int.reduceLE, Int.reduceLT, Nat.reduceAdd, Nat.reduceEqDiff, Nat.reduceLT, Nat.reduceLeDiff, Nat.reduceMul, Nat.reduceSub, reduceIte])))
      · have h' : x.args.map Cond.tencN ≠ [] := fun e => h (List.map_eq_nil_iff.1 e)
        rw [List.take_length]
        simp -implicitDefEqProofs only [rowN_ne h']
        simp -implicitDefEqProofs only [W3, ↓D3, ↓DA, ↓DP, ↓DC, QX, SH, leaf_some, isNormal, Int.reduceToNat, id_eq, Int.reduceBEq, Int.reduceLE, Int.reduceLT, Nat.reduceAdd, Nat.reduceEqDiff, Nat.reduceLT, Nat.reduceLeDiff, Nat.reduceMul, Nat.reduceSub, reduceIte]
        repeat' (split <;> (rename_i h; (try simp -implicitDefEqProofs only [Bool.not_eq_true', Bool.not_eq_false', decide_eq_true_eq, decide_eq_false_iff_not] at h); (try simp -implicitDefEqProofs only [W3, ↓D3, ↓DA, ↓DP, ↓DC, QX, *, SH, leaf_some, isNormal, Int.reduceToNat, id_eq, Int.reduceBEq, Int.reduceLE, Int.reduceLT, Nat.reduceAdd, Nat.reduceEqDiff, Nat.reduceLT, Nat.reduceLeDiff, Nat.reduceMul, Nat.reduceSub, reduceIte])))
    · intro pre c r _ hs' _
      have hx := (at_row hs' hs).1; have hc := (at_row hs' hs).2.1; have hlt := (at_row hs' hs).2.2.1; have hw1 := (at_row hs' hs).2.2.2.1; have hl9 := (at_row hs' hs).2.2.2.2
      obtain ⟨ht1, ht2⟩ := take_row hs'
      have hpre : pre.length + 1 ≤ x.args.length := by omega
      clear hs'
      have c2 := cc c hc
      have hm1 : (pre.length + 1) * 48 ≤ 140737488355328 := by omega
      have hm2 : pre.length + 1 ≤ 9223372036854775807 := by omega
      have hm9 : pre.length ≤ 9223372036854775806 := by omega
      have hsc := tscals_N c.args
      rw [ht1, ht2, List.map_append]
      have hne : pre.map Cond.tencN ++ [c].map Cond.tencN ≠ [] := by simp
      simp -implicitDefEqProofs only [rowN_ne hne]
      have hel : [c].map Cond.tencN = [.agg [.int .i64 c.op, .int .i64 c.a, .int .i64 c.b, cellN (c.args.map Cond.tencN)]] := by simp [tencN_eq]
      rw [hel]
      rcases Classical.em (c.args.map Cond.tencN = []) with h2 | h2
      · rw [h2] at c2
        simp -implicitDefEqProofs only [rowN_nil] at c2
        rw [h2, cellN_nil]
        rcases Classical.em (pre.map Cond.tencN = []) with h1 | h1
        · rw [h1]
          simp -implicitDefEqProofs only [rowN_nil, List.nil_append]
          simp -implicitDefEqProofs only [W3, ↓D3, ↓DA, ↓DP, ↓DC, QX, enc_Cond, hx, hlt, hw1, c2, plan_22_5, SH, keep_22_3, leaf_some, isNormal, Int.reduceToNat, id_eq, Int.reduceBEq, Int.reduceLE, Int.reduceLT, Nat.reduceAdd, Nat.reduceEqDiff, Nat.reduceLT, Nat.reduceLeDiff, Nat.reduceMul, Nat.reduceSub, reduceIte]
          repeat' (split <;> (rename_i h; (try simp -implicitDefEqProofs only [Bool.not_eq_true', Bool.not_eq_false', decide_eq_true_eq, decide_eq_false_iff_not] at h); (try simp -implicitDefEqProofs only [W3, ↓D3, ↓DA, ↓DP, ↓DC, QX, *, enc_Cond, hx, hlt, hw1, c2, plan_22_5, SH, keep_22_3, leaf_some, isNormal, Int.reduceToNat, id_eq, Int.reduceBEq, Int.reduceLE, Int.reduceLT, Nat.reduceAdd, Nat.reduceEqDiff, Nat.reduceLT, Nat.reduceLeDiff, Nat.reduceMul, Nat.reduceSub, reduceIte])))
        · simp -implicitDefEqProofs only [rowN_ne h1]
          simp -implicitDefEqProofs only [W3, ↓D3, ↓DA, ↓DP, ↓DC, QX, enc_Cond, hx, hlt, hw1, c2, hm1, hm2, hm9, plan_22_5, SH, keep_22_3, leaf_some, isNormal, Int.reduceToNat, id_eq, Int.reduceBEq, Int.reduceLE, Int.reduceLT, Nat.reduceAdd, Nat.reduceEqDiff, Nat.reduceLT, Nat.reduceLeDiff, Nat.reduceMul, Nat.reduceSub, reduceIte]
          repeat' (split <;> (rename_i h; (try simp -implicitDefEqProofs only [Bool.not_eq_true', Bool.not_eq_false', decide_eq_true_eq, decide_eq_false_iff_not] at h); (try simp -implicitDefEqProofs only [W3, ↓D3, ↓DA, ↓DP, ↓DC, QX, *, enc_Cond, hx, hlt, hw1, c2, hm1, hm2, hm9, plan_22_5, SH, keep_22_3, leaf_some, isNormal, Int.reduceToNat, id_eq, Int.reduceBEq, Int.reduceLE, Int.reduceLT, Nat.reduceAdd, Nat.reduceEqDiff, Nat.reduceLT, Nat.reduceLeDiff, Nat.reduceMul, Nat.reduceSub, reduceIte])))
      · simp -implicitDefEqProofs only [rowN_ne h2] at c2
        rw [cellN_ne h2]
        rcases Classical.em (pre.map Cond.tencN = []) with h1 | h1
        · rw [h1]
          simp -implicitDefEqProofs only [rowN_nil, List.nil_append]
          simp -implicitDefEqProofs only [W3, ↓D3, ↓DA, ↓DP, ↓DC, QX, enc_Cond, hx, hlt, hw1, c2, hsc, plan_22_5, SH, keep_22_3, leaf_some, isNormal, Int.reduceToNat, id_eq, Int.reduceBEq, Int.reduceLE, Int.reduceLT, Nat.reduceAdd, Nat.reduceEqDiff, Nat.reduceLT, Nat.reduceLeDiff, Nat.reduceMul, Nat.reduceSub, reduceIte]
          repeat' (split <;> (rename_i h; (try simp -implicitDefEqProofs only [Bool.not_eq_true', Bool.not_eq_false', decide_eq_true_eq, decide_eq_false_iff_not] at h); (try simp -implicitDefEqProofs only [W3, ↓D3, ↓DA, ↓DP, ↓DC, QX, *, enc_Cond, hx, hlt, hw1, c2, hsc, plan_22_5, SH, keep_22_3, leaf_some, isNormal, Int.reduceToNat, id_eq, Int.reduceBEq, Int.reduceLE, Int.reduceLT, Nat.reduceAdd, Nat.reduceEqDiff, Nat.reduceLT, Nat.reduceLeDiff, Nat.reduceMul, Nat.reduceSub, reduceIte])))
        · simp -implicitDefEqProofs only [rowN_ne h1]
          simp -implicitDefEqProofs only [W3, ↓D3, ↓DA, ↓DP, ↓DC, QX, enc_Cond, hx, hlt, hw1, c2, hsc, hm1, hm2, hm9, plan_22_5, SH, keep_22_3, leaf_some, isNormal, Int.reduceToNat, id_eq, Int.reduceBEq, Int.reduceLE, Int.reduceLT, Nat.reduceAdd, Nat.reduceEqDiff, Nat.reduceLT, Nat.reduceLeDiff, Nat.reduceMul, Nat.reduceSub, reduceIte]
          repeat' (split <;> (rename_i h; (try simp -implicitDefEqProofs only [Bool.not_eq_true', Bool.not_eq_false', decide_eq_true_eq, decide_eq_false_iff_not] at h); (try simp -implicitDefEqProofs only [W3, ↓D3, ↓DA, ↓DP, ↓DC, QX, *, enc_Cond, hx, hlt, hw1, c2, hsc, hm1, hm2, hm9, plan_22_5, SH, keep_22_3, leaf_some, isNormal, Int.reduceToNat, id_eq, Int.reduceBEq, Int.reduceLE, Int.reduceLT, Nat.reduceAdd, Nat.reduceEqDiff, Nat.reduceLT, Nat.reduceLeDiff, Nat.reduceMul, Nat.reduceSub, reduceIte])))
    · omega
    · simp -implicitDefEqProofs only [firstRegion]
      rw [keep_22_3]
      simp -implicitDefEqProofs only [W3, ↓D3, ↓DA, ↓DP, ↓DC, rowN_nil, Int.reduceToNat, id_eq, Int.reduceBEq, Int.reduceLE, Int.reduceLT, SH, Nat.reduceAdd, Nat.reduceEqDiff, Nat.reduceLT, Nat.reduceLeDiff, Nat.reduceMul, Nat.reduceSub, reduceIte]
theorem r_spec_l15Copy0 {fl : Bool} (x : Cond) : ∀ k, 281474976710656 + 4 * x.w + 2 ≤ k → x.w ≤ 1099511627776 → run E noExt k 20 [x.enc fl] [] = some (x.copyAV, []) := by
  induction x using Cond.induct with
  | h x ih =>
    intro k hk hx
    rw [x.w_eq] at hk hx
    have hs1 := wl_length Cond.w x.args
    have hs : x.args.length ≤ 140737488355328 := by omega
    have cc := fun c hc => ih c hc (k - 1) (by have := wl_mem (w := Cond.w) hc; omega) (by have := wl_mem (w := Cond.w) hc; omega)
    unfold Cond.copyAV at cc ⊢
    obtain ⟨k, rfl⟩ : ∃ j, k = j + 1 := ⟨k - 1, by omega⟩
    rw [run_succ rfl rfl, body_eq (nt := 31) (fn := Go.Proofs.Try.f20) (by kernel_rfl) rfl rfl rfl rfl rfl rfl rfl rfl]
    simp -implicitDefEqProofs only [Nat.add_sub_cancel, enc_Cond] at cc
    clear ih
    simp -implicitDefEqProofs only [W4, ↓D4, ↓DA, ↓DP, ↓DC, Go.Proofs.Try.f20, enc_Cond, SH, dedup, nodupB, idx, AV.rows, AV.rowss, AV.mapO, AV.mapOs, Int.reduceToNat, id_eq, Int.reduceBEq, Int.reduceLE, Int.reduceLT, Nat.reduceAdd, Nat.reduceEqDiff, Nat.reduceLT, Nat.reduceLeDiff, Nat.reduceMul, Nat.reduceSub, reduceIte]
    rw [ev_loop]
    refine loop_list (Q := fun (_ : Unit) z => thenEnd E.P [] _ 0 (thenEv E _ _ _ _ _ (outOf 0 z)) = some (.agg [.int .i64 x.op, .int .i64 x.a, .int .i64 x.b, rowN 0 (x.args.map Cond.tencN)], [])) x.args (fun _ _ _ => .inr ()) id
      (fun i _ => { sl := [(1, .ptr 0 0), (2, .ptr 1 0), (3, .ptr 2 0), (4, .int .i64 (i : Nat))], bx := [(0, [.int .i64 x.op, .int .i64 x.a, .int .i64 x.b, .sl fl (x.args.map (Cond.enc fl))]), (1, [.int .i64 0, .int .i64 0, .int .i64 0, .nils]), (2, [.int .i64 x.op, .int .i64 x.a, .int .i64 x.b, rowN 0 ((x.args.take i).map Cond.tencN)])], nx := (AV.rows (rowN 0 ((x.args.take i).map Cond.tencN))).length + 3, nt := 31, tree := true }) (fun _ _ => True) () ?_ ?_ ?_ trivial ?_
    · intro _ _
      rcases Classical.em (x.args = []) with h | h
      · simp -implicitDefEqProofs only [h, List.take_nil, List.map_nil, rowN_nil, List.length_nil]
        simp -implicitDefEqProofs only [W3, ↓D3, ↓DA, ↓DP, ↓DC, QX, SH, leaf_some, isNormal, Int.reduceToNat, id_eq, Int.reduceBEq, Int.reduceLE, Int.reduceLT, Nat.reduceAdd, Nat.reduceEqDiff, Nat.reduceLT, Nat.reduceLeDiff, Nat.reduceMul, Nat.reduceSub, reduceIte]
        repeat' (split <;> (rename_i h; (try simp -implicitDefEqProofs only [Bool.not_eq_true', Bool.not_eq_false', decide_eq_true_eq, decide_eq_false_iff_not] at h); (try simp -implicitDefEqProofs only [W3, ↓D3, ↓DA, ↓DP, ↓DC, QX, *, SH, leaf_some, isNormal, Int.reduceToNat, id_eq, Int.reduceBEq, Int.reduceLE, Int.reduceLT, Nat.reduceAdd, Nat.reduceEqDiff, Nat.reduceLT, Nat.reduceLeDiff, Nat.reduceMul, Nat.reduceSub, reduceIte])))
      · have h' : x.args.map Cond.tencN ≠ [] := fun e => h (List.map_eq_nil_iff.1 e)
        rw [List.take_length]
        simp -implicitDefEqProofs only [rowN_ne h']
        simp -implicitDefEqProofs only [W3, ↓D3, ↓DA, ↓DP, ↓DC, QX, SH, leaf_some, isNormal, Int.reduceToNat, id_eq, Int.reduceBEq, Int.reduceLE, Int.reduceLT, Nat.reduceAdd, Nat.reduceEqDiff, Nat.reduceLT, Nat.reduceLeDiff, Nat.reduceMul, Nat.reduceSub, reduceIte]
        repeat' (split <;> (rename_i h; (try simp -implicitDefEqProofs only [Bool.not_eq_true', Bool.not_eq_false', decide_eq_true_eq, decide_eq_false_iff_not] at h); (try simp -implicitDefEqProofs only [W3, ↓D3, ↓DA, ↓DP, ↓DC, QX, *, SH, leaf_some, isNormal, Int.reduceToNat, id_eq, Int.reduceBEq, Int.reduceLE, Int.reduceLT, Nat.reduceAdd, Nat.reduceEqDiff, Nat.reduceLT, Nat.reduceLeDiff, Nat.reduceMul, Nat.reduceSub, reduceIte])))
    · intro pre c r _ hs' _
      have hx := (at_row hs' hs).1; have hc := (at_row hs' hs).2.1; have hlt := (at_row hs' hs).2.2.1; have hw1 := (at_row hs' hs).2.2.2.1; have hl9 := (at_row hs' hs).2.2.2.2
      obtain ⟨ht1, ht2⟩ := take_row hs'
      have hpre : pre.length + 1 ≤ x.args.length := by omega
      clear hs'
      have c2 := cc c hc
      have hm1 : (pre.length + 1) * 48 ≤ 140737488355328 := by omega
      have hm2 : pre.length + 1 ≤ 9223372036854775807 := by omega
      have hm9 : pre.length ≤ 9223372036854775806 := by omega
      have hsc := tscals_N c.args
      rw [ht1, ht2, List.map_append]
      have hne : pre.map Cond.tencN ++ [c].map Cond.tencN ≠ [] := by simp
      simp -implicitDefEqProofs only [rowN_ne hne]
      have hel : [c].map Cond.tencN = [.agg [.int .i64 c.op, .int .i64 c.a, .int .i64 c.b, cellN (c.args.map Cond.tencN)]] := by simp [tencN_eq]
      rw [hel]
      rcases Classical.em (c.args.map Cond.tencN = []) with h2 | h2
      · rw [h2] at c2
        simp -implicitDefEqProofs only [rowN_nil] at c2
        rw [h2, cellN_nil]
        rcases Classical.em (pre.map Cond.tencN = []) with h1 | h1
        · rw [h1]
          simp -implicitDefEqProofs only [rowN_nil, List.nil_append]
          simp -implicitDefEqProofs only [W3, ↓D3, ↓DA, ↓DP, ↓DC, QX, enc_Cond, hx, hlt, hw1, c2, plan_20_5, SH, keep_20_3, leaf_some, isNormal, Int.reduceToNat, id_eq, Int.reduceBEq, Int.reduceLE, Int.reduceLT, Nat.reduceAdd, Nat.reduceEqDiff, Nat.reduceLT, Nat.reduceLeDiff, Nat.reduceMul, Nat.reduceSub, reduceIte]
          repeat' (split <;> (rename_i h; (try simp -implicitDefEqProofs only [Bool.not_eq_true', Bool.not_eq_false', decide_eq_true_eq, decide_eq_false_iff_not] at h); (try simp -implicitDefEqProofs only [W3, ↓D3, ↓DA, ↓DP, ↓DC, QX, *, enc_Cond, hx, hlt, hw1, c2, plan_20_5, SH, keep_20_3, leaf_some, isNormal, Int.reduceToNat, id_eq, Int.reduceBEq, Int.reduceLE, Int.reduceLT, Nat.reduceAdd, Nat.reduceEqDiff, Nat.reduceLT, Nat.reduceLeDiff, Nat.reduceMul, Nat.reduceSub, reduceIte])))
        · simp -implicitDefEqProofs only [rowN_ne h1]
          simp -implicitDefEqProofs only [W3, ↓D3, ↓DA, ↓DP, ↓DC, QX, enc_Cond, hx, hlt, hw1, c2, hm1, hm2, hm9, plan_20_5, SH, keep_20_3, leaf_some, isNormal, Int.reduceToNat, id_eq, Int.reduceBEq, Int.reduceLE, Int.reduceLT, Nat.reduceAdd, Nat.reduceEqDiff, Nat.reduceLT, Nat.reduceLeDiff, Nat.reduceMul, Nat.reduceSub, reduceIte]
          repeat' (split <;> (rename_i h; (try simp -implicitDefEqProofs only [Bool.not_eq_true', Bool.not_eq_false', decide_eq_true_eq, decide_eq_false_iff_not] at h); (try simp -implicitDefEqProofs only [W3, ↓D3, ↓DA, ↓DP, ↓DC, QX, *, enc_Cond, hx, hlt, hw1, c2, hm1, hm2, hm9, plan_20_5, SH, keep_20_3, leaf_some, isNormal, Int.reduceToNat, id_eq, Int.reduceBEq, Int.reduceLE, Int.reduceLT, Nat.reduceAdd, Nat.reduceEqDiff, Nat.reduceLT, Nat.reduceLeDiff, Nat.reduceMul, Nat.reduceSub, reduceIte])))
      · simp -implicitDefEqProofs only [rowN_ne h2] at c2
        rw [cellN_ne h2]
        rcases Classical.em (pre.map Cond.tencN = []) with h1 | h1
        · rw [h1]
          simp -implicitDefEqProofs only [rowN_nil, List.nil_append]
          simp -implicitDefEqProofs only [W3, ↓D3, ↓DA, ↓DP, ↓DC, QX, enc_Cond, hx, hlt, hw1, c2, hsc, plan_20_5, SH, keep_20_3, leaf_some, isNormal, Int.reduceToNat, id_eq, Int.reduceBEq, Int.reduceLE, Int.reduceLT, Nat.reduceAdd, Nat.reduceEqDiff, Nat.reduceLT, Nat.reduceLeDiff, Nat.reduceMul, Nat.reduceSub, reduceIte]
          repeat' (split <;> (rename_i h; (try simp -implicitDefEqProofs only [Bool.not_eq_true', Bool.not_eq_false', decide_eq_true_eq, decide_eq_false_iff_not] at h); (try simp -implicitDefEqProofs only [W3, ↓D3, ↓DA, ↓DP, ↓DC, QX, *, enc_Cond, hx, hlt, hw1, c2, hsc, plan_20_5, SH, keep_20_3, leaf_some, isNormal, Int.reduceToNat, id_eq, Int.reduceBEq, Int.reduceLE, Int.reduceLT, Nat.reduceAdd, Nat.reduceEqDiff, Nat.reduceLT, Nat.reduceLeDiff, Nat.reduceMul, Nat.reduceSub, reduceIte])))
        · simp -implicitDefEqProofs only [rowN_ne h1]
          simp -implicitDefEqProofs only [W3, ↓D3, ↓DA, ↓DP, ↓DC, QX, enc_Cond, hx, hlt, hw1, c2, hsc, hm1, hm2, hm9, plan_20_5, SH, keep_20_3, leaf_some, isNormal, Int.reduceToNat, id_eq, Int.reduceBEq, Int.reduceLE, Int.reduceLT, Nat.reduceAdd, Nat.reduceEqDiff, Nat.reduceLT, Nat.reduceLeDiff, Nat.reduceMul, Nat.reduceSub, reduceIte]
          repeat' (split <;> (rename_i h; (try simp -implicitDefEqProofs only [Bool.not_eq_true', Bool.not_eq_false', decide_eq_true_eq, decide_eq_false_iff_not] at h); (try simp -implicitDefEqProofs only [W3, ↓D3, ↓DA, ↓DP, ↓DC, QX, *, enc_Cond, hx, hlt, hw1, c2, hsc, hm1, hm2, hm9, plan_20_5, SH, keep_20_3, leaf_some, isNormal, Int.reduceToNat, id_eq, Int.reduceBEq, Int.reduceLE, Int.reduceLT, Nat.reduceAdd, Nat.reduceEqDiff, Nat.reduceLT, Nat.reduceLeDiff, Nat.reduceMul, Nat.reduceSub, reduceIte])))
    · omega
    · simp -implicitDefEqProofs only [firstRegion]
      rw [keep_20_3]
      simp -implicitDefEqProofs only [W3, ↓D3, ↓DA, ↓DP, ↓DC, rowN_nil, Int.reduceToNat, id_eq, Int.reduceBEq, Int.reduceLE, Int.reduceLT, SH, Nat.reduceAdd, Nat.reduceEqDiff, Nat.reduceLT, Nat.reduceLeDiff, Nat.reduceMul, Nat.reduceSub, reduceIte]
theorem r_impl_copyCond {fl : Bool} (k : Nat) (hk : 290271069732864 + 2 ≤ k) (x : Cond) (hx : x.w ≤ 1099511627776) : run E noExt k 22 [x.enc fl] [] = some (x.copyAV, []) := r_impl_copyCond0 x k (by omega) hx
theorem r_spec_l15Copy {fl : Bool} (k : Nat) (hk : 290271069732864 + 2 ≤ k) (x : Cond) (hx : x.w ≤ 1099511627776) : run E noExt k 20 [x.enc fl] [] = some (x.copyAV, []) := r_spec_l15Copy0 x k (by omega) hx
def Rule.tencN (r : Rule) : AV := .agg [.int .i64 r.effect, .int .i64 r.action, .int .i64 r.object, .int .i64 r.cond.op, .int .i64 r.cond.a, .int .i64 r.cond.b, cellN (r.cond.args.map Cond.tencN)]
theorem tencN_rule {r : Rule} : r.tencN = .agg [.int .i64 r.effect, .int .i64 r.action, .int .i64 r.object, .int .i64 r.cond.op, .int .i64 r.cond.a, .int .i64 r.cond.b, cellN (r.cond.args.map Cond.tencN)] := rfl
theorem tshuts_NR {l : List Rule} : AV.shuts (l.map Rule.tencN) = l.map (Rule.enc true) := by
  induction l with
  | nil => rfl
  | cons c r ih => simp -implicitDefEqProofs only [List.map_cons, AV.shuts, ih, tencN_rule, AV.shut, shut_cellN, tshuts_N, enc_Rule]
theorem tscals_NR (s : List Rule) : AV.scals (s.map Rule.tencN) = true := by
  induction s with
  | nil => rfl
  | cons c r ih => simp -implicitDefEqProofs only [List.map_cons, AV.scals, ih, Bool.and_true, tencN_rule, AV.scal, scal_cellN (tscals_N _), Bool.and_self]
def rowR (id : Nat) : List AV → AV
  | [] => .nils
  | v :: vs => .own id false 43 7 (v :: vs)
theorem rowR_nil {id : Nat} : rowR id [] = .nils := rfl
theorem rowR_ne {id : Nat} {vs : List AV} (h : vs ≠ []) : rowR id vs = .own id false 43 7 vs := by cases vs with | nil => exact absurd rfl h | cons => rfl
theorem r_spec_l19Copy {fl : Bool} (k : Nat) (hk : 290271069732864 + 4 ≤ k) (p : Policy) (hw0 : p.w ≤ 1099511627776) :
    run E noExt k 12 [p.enc fl] [] = some (.agg [.int .i64 p.version, rowR 0 (p.rules.map Rule.tencN)], []) := by
  have hw : wl Rule.w p.rules ≤ 1099511627776 := hw0
  have hs1 := wl_length Rule.w p.rules
  have hs : p.rules.length ≤ 140737488355328 := by omega
  have cc := fun (c : Rule) (hc : c ∈ p.rules) => r_spec_l15Copy (fl := fl) (k - 1) (by omega) c.cond (by have := wl_mem (w := Rule.w) hc; have hw : c.w = c.cond.w := rfl; omega)
  unfold Cond.copyAV at cc
  obtain ⟨k, rfl⟩ : ∃ j, k = j + 1 := ⟨k - 1, by omega⟩
  rw [run_succ rfl rfl, body_eq (nt := 36) (fn := Go.Proofs.Try.f12) (by kernel_rfl) rfl rfl rfl rfl rfl rfl rfl rfl]
  simp -implicitDefEqProofs only [Nat.add_sub_cancel, enc_Cond] at cc
  simp -implicitDefEqProofs only [W4, ↓D4, ↓DA, ↓DP, ↓DC, Go.Proofs.Try.f12, enc_Policy, SH, dedup, nodupB, idx, AV.rows, AV.rowss, AV.mapO, AV.mapOs, Int.reduceToNat, id_eq, Int.reduceBEq, Int.reduceLE, Int.reduceLT, Nat.reduceAdd, Nat.reduceEqDiff, Nat.reduceLT, Nat.reduceLeDiff, Nat.reduceMul, Nat.reduceSub, reduceIte]
  rw [ev_loop]
  refine loop_list (Q := fun (_ : Unit) z => thenEnd E.P [] _ 0 (thenEv E _ _ _ _ _ (outOf 0 z)) = some (.agg [.int .i64 p.version, rowR 0 (p.rules.map Rule.tencN)], [])) p.rules (fun _ _ _ => .inr ()) id
    (fun i _ => { sl := [(1, .ptr 0 0), (2, .ptr 1 0), (3, .ptr 2 0), (4, .int .i64 (i : Nat))], bx := [(0, [.int .i64 p.version, .sl fl (p.rules.map (Rule.enc fl))]), (1, [.int .i64 0, .nils]), (2, [.int .i64 p.version, rowR 0 ((p.rules.take i).map Rule.tencN)])], nx := (AV.rows (rowR 0 ((p.rules.take i).map Rule.tencN))).length + 3, nt := 36, tree := true }) (fun _ _ => True) () ?_ ?_ ?_ trivial ?_
  · intro _ _
    rcases Classical.em (p.rules = []) with h | h
    · simp -implicitDefEqProofs only [h, List.take_nil, List.map_nil, rowR_nil, List.length_nil]
      simp -implicitDefEqProofs only [W3, ↓D3, ↓DA, ↓DP, ↓DC, QX, SH, leaf_some, isNormal, Int.reduceToNat, id_eq, Int.reduceBEq, Int.reduceLE, Int.reduceLT, Nat.reduceAdd, Nat.reduceEqDiff, Nat.reduceLT, Nat.reduceLeDiff, Nat.reduceMul, Nat.reduceSub, reduceIte]
      repeat' (split <;> (rename_i h; (try simp -implicitDefEqProofs only [Bool.not_eq_true', Bool.not_eq_false', decide_eq_true_eq, decide_eq_false_iff_not] at h); (try simp -implicitDefEqProofs only [W3, ↓D3, ↓DA, ↓DP, ↓DC, QX, *, SH, leaf_some, isNormal, Int.reduceToNat, id_eq, Int.reduceBEq, Int.reduceLE, Int.reduceLT, Nat.reduceAdd, Nat.reduceEqDiff, Nat.reduceLT, Nat.reduceLeDiff, Nat.reduceMul, Nat.reduceSub, reduceIte])))
    · have h' : p.rules.map Rule.tencN ≠ [] := fun e => h (List.map_eq_nil_iff.1 e)
      rw [List.take_length]
      simp -implicitDefEqProofs only [rowR_ne h']
      simp -implicitDefEqProofs only [W3, ↓D3, ↓DA, ↓DP, ↓DC, QX, SH, leaf_some, isNormal, Int.reduceToNat, id_eq, Int.reduceBEq, Int.reduceLE, Int.reduceLT, Nat.reduceAdd, Nat.reduceEqDiff, Nat.reduceLT, Nat.reduceLeDiff, Nat.reduceMul, Nat.reduceSub, reduceIte]
      repeat' (split <;> (rename_i h; (try simp -implicitDefEqProofs only [Bool.not_eq_true', Bool.not_eq_false', decide_eq_true_eq, decide_eq_false_iff_not] at h); (try simp -implicitDefEqProofs only [W3, ↓D3, ↓DA, ↓DP, ↓DC, QX, *, SH, leaf_some, isNormal, Int.reduceToNat, id_eq, Int.reduceBEq, Int.reduceLE, Int.reduceLT, Nat.reduceAdd, Nat.reduceEqDiff, Nat.reduceLT, Nat.reduceLeDiff, Nat.reduceMul, Nat.reduceSub, reduceIte])))
  · intro pre c r _ hs' _
    have hx := (at_row hs' hs).1; have hc := (at_row hs' hs).2.1; have hlt := (at_row hs' hs).2.2.1; have hw1 := (at_row hs' hs).2.2.2.1; have hl9 := (at_row hs' hs).2.2.2.2
    obtain ⟨ht1, ht2⟩ := take_row hs'
    have hpre : pre.length + 1 ≤ p.rules.length := by omega
    clear hs'
    have c2 := cc c hc
    have hm1 : (pre.length + 1) * 72 ≤ 140737488355328 := by omega
    have hm2 : pre.length + 1 ≤ 9223372036854775807 := by omega
    have hm9 : pre.length ≤ 9223372036854775806 := by omega
    have hsc := tscals_N c.cond.args
    rw [ht1, ht2, List.map_append]
    have hne : pre.map Rule.tencN ++ [c].map Rule.tencN ≠ [] := by simp
    simp -implicitDefEqProofs only [rowR_ne hne]
    have hel : [c].map Rule.tencN = [.agg [.int .i64 c.effect, .int .i64 c.action, .int .i64 c.object, .int .i64 c.cond.op, .int .i64 c.cond.a, .int .i64 c.cond.b, cellN (c.cond.args.map Cond.tencN)]] := rfl
    rw [hel]
    rcases Classical.em (c.cond.args.map Cond.tencN = []) with h2 | h2
    · rw [h2] at c2
      simp -implicitDefEqProofs only [rowN_nil] at c2
      rw [h2, cellN_nil]
      rcases Classical.em (pre.map Rule.tencN = []) with h1 | h1
      · rw [h1]
        simp -implicitDefEqProofs only [rowR_nil, List.nil_append]
        simp -implicitDefEqProofs only [W3, ↓D3, ↓DA, ↓DP, ↓DC, QX, enc_Rule, hx, hlt, hw1, c2, hsc, SH, keep_12_3, leaf_some, isNormal, Int.reduceToNat, id_eq, Int.reduceBEq, Int.reduceLE, Int.reduceLT, Nat.reduceAdd, Nat.reduceEqDiff, Nat.reduceLT, Nat.reduceLeDiff, Nat.reduceMul, Nat.reduceSub, reduceIte]
        repeat' (split <;> (rename_i h; (try simp -implicitDefEqProofs only [Bool.not_eq_true', Bool.not_eq_false', decide_eq_true_eq, decide_eq_false_iff_not] at h); (try simp -implicitDefEqProofs only [W3, ↓D3, ↓DA, ↓DP, ↓DC, QX, *, enc_Rule, hx, hlt, hw1, c2, hsc, SH, keep_12_3, leaf_some, isNormal, Int.reduceToNat, id_eq, Int.reduceBEq, Int.reduceLE, Int.reduceLT, Nat.reduceAdd, Nat.reduceEqDiff, Nat.reduceLT, Nat.reduceLeDiff, Nat.reduceMul, Nat.reduceSub, reduceIte])))
      · simp -implicitDefEqProofs only [rowR_ne h1]
        simp -implicitDefEqProofs only [W3, ↓D3, ↓DA, ↓DP, ↓DC, QX, enc_Rule, hx, hlt, hw1, c2, hsc, hm1, hm2, hm9, SH, keep_12_3, leaf_some, isNormal, Int.reduceToNat, id_eq, Int.reduceBEq, Int.reduceLE, Int.reduceLT, Nat.reduceAdd, Nat.reduceEqDiff, Nat.reduceLT, Nat.reduceLeDiff, Nat.reduceMul, Nat.reduceSub, reduceIte]
        repeat' (split <;> (rename_i h; (try simp -implicitDefEqProofs only [Bool.not_eq_true', Bool.not_eq_false', decide_eq_true_eq, decide_eq_false_iff_not] at h); (try simp -implicitDefEqProofs only [W3, ↓D3, ↓DA, ↓DP, ↓DC, QX, *, enc_Rule, hx, hlt, hw1, c2, hsc, hm1, hm2, hm9, SH, keep_12_3, leaf_some, isNormal, Int.reduceToNat, id_eq, Int.reduceBEq, Int.reduceLE, Int.reduceLT, Nat.reduceAdd, Nat.reduceEqDiff, Nat.reduceLT, Nat.reduceLeDiff, Nat.reduceMul, Nat.reduceSub, reduceIte])))
    · simp -implicitDefEqProofs only [rowN_ne h2] at c2
      rw [cellN_ne h2]
      rcases Classical.em (pre.map Rule.tencN = []) with h1 | h1
      · rw [h1]
        simp -implicitDefEqProofs only [rowR_nil, List.nil_append]
        simp -implicitDefEqProofs only [W3, ↓D3, ↓DA, ↓DP, ↓DC, QX, enc_Rule, hx, hlt, hw1, c2, hsc, SH, keep_12_3, leaf_some, isNormal, Int.reduceToNat, id_eq, Int.reduceBEq, Int.reduceLE, Int.reduceLT, Nat.reduceAdd, Nat.reduceEqDiff, Nat.reduceLT, Nat.reduceLeDiff, Nat.reduceMul, Nat.reduceSub, reduceIte]
        repeat' (split <;> (rename_i h; (try simp -implicitDefEqProofs only [Bool.not_eq_true', Bool.not_eq_false', decide_eq_true_eq, decide_eq_false_iff_not] at h); (try simp -implicitDefEqProofs only [W3, ↓D3, ↓DA, ↓DP, ↓DC, QX, *, enc_Rule, hx, hlt, hw1, c2, hsc, SH, keep_12_3, leaf_some, isNormal, Int.reduceToNat, id_eq, Int.reduceBEq, Int.reduceLE, Int.reduceLT, Nat.reduceAdd, Nat.reduceEqDiff, Nat.reduceLT, Nat.reduceLeDiff, Nat.reduceMul, Nat.reduceSub, reduceIte])))
      · simp -implicitDefEqProofs only [rowR_ne h1]
        simp -implicitDefEqProofs only [W3, ↓D3, ↓DA, ↓DP, ↓DC, QX, enc_Rule, hx, hlt, hw1, c2, hsc, hm1, hm2, hm9, SH, keep_12_3, leaf_some, isNormal, Int.reduceToNat, id_eq, Int.reduceBEq, Int.reduceLE, Int.reduceLT, Nat.reduceAdd, Nat.reduceEqDiff, Nat.reduceLT, Nat.reduceLeDiff, Nat.reduceMul, Nat.reduceSub, reduceIte]
        repeat' (split <;> (rename_i h; (try simp -implicitDefEqProofs only [Bool.not_eq_true', Bool.not_eq_false', decide_eq_true_eq, decide_eq_false_iff_not] at h); (try simp -implicitDefEqProofs only [W3, ↓D3, ↓DA, ↓DP, ↓DC, QX, *, enc_Rule, hx, hlt, hw1, c2, hsc, hm1, hm2, hm9, SH, keep_12_3, leaf_some, isNormal, Int.reduceToNat, id_eq, Int.reduceBEq, Int.reduceLE, Int.reduceLT, Nat.reduceAdd, Nat.reduceEqDiff, Nat.reduceLT, Nat.reduceLeDiff, Nat.reduceMul, Nat.reduceSub, reduceIte])))
  · omega
  · simp -implicitDefEqProofs only [firstRegion]
    rw [keep_12_3]
    simp -implicitDefEqProofs only [W3, ↓D3, ↓DA, ↓DP, ↓DC, rowR_nil, Int.reduceToNat, id_eq, Int.reduceBEq, Int.reduceLE, Int.reduceLT, SH, Nat.reduceAdd, Nat.reduceEqDiff, Nat.reduceLT, Nat.reduceLeDiff, Nat.reduceMul, Nat.reduceSub, reduceIte]
def dropR (s : List Rule) (i : Nat) : List Rule := s.take i ++ s.drop (i + 1)
def dropStep (i : Int) (k : Nat) (r : Rule) (b : List Rule) : Sum (List Rule) (List Rule) := .inr (if (!((k : Int) == i)) = true then b ++ [r] else b)
theorem dropLoop (i : Nat) : ∀ (s : List Rule) (k : Nat) (b : List Rule), k ≤ i → loopL (dropStep (i : Int)) id k s b = b ++ dropR s (i - k)
  | [], k, b, _ => by simp [loopL, dropR]
  | r :: s, k, b, h => by
    simp -implicitDefEqProofs only [loopL, dropStep]
    by_cases e : k = i
    · subst e
      have hh : ((k : Int) == (k : Int)) = true := by simp
      simp -implicitDefEqProofs only [hh, Bool.not_true, Bool.false_eq_true, if_false]
      have key : ∀ (s : List Rule) (j : Nat) (b : List Rule), k < j → loopL (dropStep (k : Int)) id j s b = b ++ s := by
        intro s
        induction s with
        | nil => intro j b _; simp [loopL]
        | cons x t ih =>
          intro j b hj
          have hne : ((j : Int) == (k : Int)) = false := by simp; omega
          simp -implicitDefEqProofs only [loopL, dropStep, hne, Bool.not_false, if_true]
          rw [ih (j + 1) _ (by omega)]
          simp
      rw [key s (k + 1) b (by omega), Nat.sub_self]
      simp [dropR]
    · have hne : ((k : Int) == (i : Int)) = false := by simp; omega
      simp -implicitDefEqProofs only [hne, Bool.not_false, if_true]
      rw [dropLoop i s (k + 1) _ (by omega)]
      have h1 : i - k = (i - (k + 1)) + 1 := by omega
      rw [h1]
      simp [dropR]
theorem dropR_w (s : List Rule) (i : Nat) : wl Rule.w (dropR s i) ≤ wl Rule.w s := by
  have h1 : wl Rule.w s = wl Rule.w (s.take (i + 1)) + wl Rule.w (s.drop (i + 1)) := by rw [← wl_append, List.take_append_drop]
  have h2 : s.take i ++ (s.take (i + 1)).drop i = s.take (i + 1) := by
    have := List.take_append_drop i (s.take (i + 1))
    rwa [List.take_take, Nat.min_eq_left (by omega)] at this
  have h3 := congrArg (wl Rule.w) h2
  rw [wl_append] at h3
  unfold dropR
  rw [wl_append]
  omega
theorem r_spec_WithoutRule (k : Nat) (hk : 290271069732864 + 8 ≤ k) (p : Policy) (hp : p.w ≤ 1099511627776) (i : Nat) (hi : i < p.rules.length) :
    run E noExt k 5 [p.enc true, .int .i64 (i : Nat)] [] = some (.agg [.int .i64 p.version, .own 0 false 43 7 ((dropR p.rules i).map (Rule.enc true))], []) := by
  have hw : wl Rule.w p.rules ≤ 1099511627776 := hp
  have hs1 := wl_length Rule.w p.rules
  have hs : p.rules.length ≤ 140737488355328 := by omega
  have c1 := r_spec_l19Copy (fl := true) (k - 1) (by omega) p hp
  have c2 := r_spec_l1In (k - 1) (by omega) (i : Nat) 0 ((p.rules.length : Int) - 1)
  have hin : inR (i : Nat) 0 ((p.rules.length : Int) - 1) = true := by unfold inR; simp; omega
  rw [hin] at c2
  have hne : p.rules.map Rule.tencN ≠ [] := fun e => by rw [List.map_eq_nil_iff] at e; rw [e] at hi; simp at hi
  have hwr : IntKind.i64.wrap ((p.rules.length : Int) - 1) = (p.rules.length : Int) - 1 := IntWalk.i64_in _ (by omega)
  have hwi : IntKind.i64.wrap ((i : Int) + 1) = ((i + 1 : Nat) : Int) := by rw [IntWalk.i64_in _ (by omega)]; omega
  rw [rowR_ne hne] at c1
  have hsc := tscals_NR p.rules
  have hdr : (dropR p.rules i).map (Rule.enc true) = (p.rules.map (Rule.enc true)).take i ++ (p.rules.map (Rule.enc true)).drop (i + 1) := by unfold dropR; rw [List.map_append, List.map_take, List.map_drop]
  rw [hdr]
  have hall : ∀ y ∈ p.rules.map (Rule.enc true), decide (y.cells.length = 7) = true ∧ (y.cells.all fun c => match c with | .tr _ _ _ => false | _ => true) = true := fun y hy => by
    obtain ⟨r, _, rfl⟩ := List.mem_map.1 hy
    exact ⟨rfl, rfl⟩
  have hRl : (p.rules.map (Rule.enc true)).length = p.rules.length := List.length_map _
  have ha0 : ((p.rules.map (Rule.enc true)).all fun y => decide (y.cells.length = 7)) = true := List.all_eq_true.2 fun y hy => (hall y hy).1
  have ha1 : (((p.rules.map (Rule.enc true)).take i).all fun y => decide (y.cells.length = 7)) = true := List.all_eq_true.2 fun y hy => (hall y (List.mem_of_mem_take hy)).1
  have ha2 : (((p.rules.map (Rule.enc true)).drop (i + 1)).all fun y => decide (y.cells.length = 7)) = true := List.all_eq_true.2 fun y hy => (hall y (List.mem_of_mem_drop hy)).1
  have hp1 : plains ((p.rules.map (Rule.enc true)).take i) = true := List.all_eq_true.2 fun y hy => (hall y (List.mem_of_mem_take hy)).2
  have hp2 : plains ((p.rules.map (Rule.enc true)).drop (i + 1)) = true := List.all_eq_true.2 fun y hy => (hall y (List.mem_of_mem_drop hy)).2
  have hle1 : ((i : Nat) : Int) ≤ (p.rules.length : Nat) := by omega
  have hle2 : ((i + 1 : Nat) : Int) ≤ (p.rules.length : Nat) := by omega
  have hmi : min i p.rules.length = i := by omega
  have hm1 : i * 72 ≤ 140737488355328 := by omega
  have hm2 : i ≤ 9223372036854775807 := by omega
  have hm3 : (i + (p.rules.length - (i + 1))) * 72 ≤ 140737488355328 := by omega
  have hm4 : i + (p.rules.length - (i + 1)) ≤ 9223372036854775807 := by omega
  obtain ⟨k, rfl⟩ : ∃ j, k = j + 1 := ⟨k - 1, by omega⟩
  rw [run_succ rfl rfl, body_eq (nt := 28) (fn := Go.Proofs.Try.f5) (by kernel_rfl) rfl rfl rfl rfl rfl rfl rfl rfl]
  simp -implicitDefEqProofs only [Nat.add_sub_cancel, enc_Policy] at c1 c2
  simp -implicitDefEqProofs only [enc_Policy]
  generalize hR : p.rules.map (Rule.enc true) = R at *
  simp -implicitDefEqProofs only [↓AV.cells.eq_def] at ha0 ha1 ha2
  simp -implicitDefEqProofs only [W3, ↓D3, ↓DA, ↓DP, ↓DC, Go.Proofs.Try.f5, c1, c2, hsc, hwr, hwi, hR, hRl, ha0, ha1, ha2, hp1, hp2, hle1, hle2, hmi, hm1, hm2, hm3, hm4, St.openB, tshuts_NR, plan_5_3, SH, Int.reduceToNat, id_eq, Int.reduceBEq, Int.reduceLE, Int.reduceLT, Nat.reduceAdd, Nat.reduceEqDiff, Nat.reduceLT, Nat.reduceLeDiff, Nat.reduceMul, Nat.reduceSub, reduceIte]
theorem r_impl_copyRules {fl : Bool} (k : Nat) (hk : 290271069732864 + 4 ≤ k) (s : List Rule) (hw : wl Rule.w s ≤ 1099511627776) :
    run E noExt k 15 [.sl fl (s.map (Rule.enc fl))] [] = some (.own 0 false 43 7 (s.map Rule.tencN), []) := by
  have hs1 := wl_length Rule.w s
  have hs : s.length ≤ 140737488355328 := by omega
  have cc := fun (c : Rule) (hc : c ∈ s) => r_impl_copyCond (fl := fl) (k - 1) (by omega) c.cond (by have := wl_mem (w := Rule.w) hc; have hw : c.w = c.cond.w := rfl; omega)
  unfold Cond.copyAV at cc
  obtain ⟨k, rfl⟩ : ∃ j, k = j + 1 := ⟨k - 1, by omega⟩
  rw [run_succ rfl rfl, body_eq (nt := 23) (fn := Go.Proofs.Try.f15) (by kernel_rfl) rfl rfl rfl rfl rfl rfl rfl rfl]
  simp -implicitDefEqProofs only [Nat.add_sub_cancel, enc_Cond] at cc
  simp -implicitDefEqProofs only [W4, ↓D4, ↓DA, ↓DP, ↓DC, Go.Proofs.Try.f15, SH, dedup, nodupB, idx, AV.rows, AV.rowss, AV.mapO, AV.mapOs, Int.reduceToNat, id_eq, Int.reduceBEq, Int.reduceLE, Int.reduceLT, Nat.reduceAdd, Nat.reduceEqDiff, Nat.reduceLT, Nat.reduceLeDiff, Nat.reduceMul, Nat.reduceSub, reduceIte]
  rw [ev_loop]
  refine loop_list (Q := fun (_ : Unit) z => thenEnd E.P [] _ 0 (thenEv E _ _ _ _ _ (outOf 0 z)) = some (.own 0 false 43 7 (s.map Rule.tencN), [])) s (fun _ _ _ => .inr ()) id
    (fun i _ => { sl := [(3, .own 0 false 43 7 ((s.take i).map Rule.tencN)), (7, .sl fl (s.map (Rule.enc fl))), (8, .int .i64 (s.length : Nat)), (9, .int .i64 (i : Nat))], bx := [], nx := 1, nt := 23, tree := true }) (fun _ _ => True) () ?_ ?_ ?_ trivial ?_
  · intro _ _
    rw [List.take_length]
    simp -implicitDefEqProofs only [W3, ↓D3, ↓DA, ↓DP, ↓DC, QX, SH, leaf_some, isNormal, Int.reduceToNat, id_eq, Int.reduceBEq, Int.reduceLE, Int.reduceLT, Nat.reduceAdd, Nat.reduceEqDiff, Nat.reduceLT, Nat.reduceLeDiff, Nat.reduceMul, Nat.reduceSub, reduceIte]
    repeat' (split <;> (rename_i h; (try simp -implicitDefEqProofs only [Bool.not_eq_true', Bool.not_eq_false', decide_eq_true_eq, decide_eq_false_iff_not] at h); (try simp -implicitDefEqProofs only [W3, ↓D3, ↓DA, ↓DP, ↓DC, QX, *, SH, leaf_some, isNormal, Int.reduceToNat, id_eq, Int.reduceBEq, Int.reduceLE, Int.reduceLT, Nat.reduceAdd, Nat.reduceEqDiff, Nat.reduceLT, Nat.reduceLeDiff, Nat.reduceMul, Nat.reduceSub, reduceIte])))
  · intro pre c r _ hs' _
    have hx := (at_row hs' hs).1; have hc := (at_row hs' hs).2.1; have hlt := (at_row hs' hs).2.2.1; have hw1 := (at_row hs' hs).2.2.2.1; have hl9 := (at_row hs' hs).2.2.2.2
    obtain ⟨ht1, ht2⟩ := take_row hs'
    have hpre : pre.length + 1 ≤ s.length := by omega
    clear hs'
    have c2 := cc c hc
    have hm1 : (pre.length + 1) * 72 ≤ 140737488355328 := by omega
    have hm2 : pre.length + 1 ≤ 9223372036854775807 := by omega
    have hm9 : pre.length ≤ 9223372036854775806 := by omega
    have hsc := tscals_N c.cond.args
    rw [ht1, ht2, List.map_append]
    have hel : [c].map Rule.tencN = [.agg [.int .i64 c.effect, .int .i64 c.action, .int .i64 c.object, .int .i64 c.cond.op, .int .i64 c.cond.a, .int .i64 c.cond.b, cellN (c.cond.args.map Cond.tencN)]] := rfl
    rw [hel]
    rcases Classical.em (c.cond.args.map Cond.tencN = []) with h2 | h2
    · rw [h2] at c2
      simp -implicitDefEqProofs only [rowN_nil] at c2
      rw [h2, cellN_nil]
      simp -implicitDefEqProofs only [W3, ↓D3, ↓DA, ↓DP, ↓DC, QX, enc_Rule, hx, hlt, hw1, c2, hm1, hm2, hm9, SH, keep_15_3, leaf_some, isNormal, Int.reduceToNat, id_eq, Int.reduceBEq, Int.reduceLE, Int.reduceLT, Nat.reduceAdd, Nat.reduceEqDiff, Nat.reduceLT, Nat.reduceLeDiff, Nat.reduceMul, Nat.reduceSub, reduceIte]
      repeat' (split <;> (rename_i h; (try simp -implicitDefEqProofs only [Bool.not_eq_true', Bool.not_eq_false', decide_eq_true_eq, decide_eq_false_iff_not] at h); (try simp -implicitDefEqProofs only [W3, ↓D3, ↓DA, ↓DP, ↓DC, QX, *, enc_Rule, hx, hlt, hw1, c2, hm1, hm2, hm9, SH, keep_15_3, leaf_some, isNormal, Int.reduceToNat, id_eq, Int.reduceBEq, Int.reduceLE, Int.reduceLT, Nat.reduceAdd, Nat.reduceEqDiff, Nat.reduceLT, Nat.reduceLeDiff, Nat.reduceMul, Nat.reduceSub, reduceIte])))
    · simp -implicitDefEqProofs only [rowN_ne h2] at c2
      rw [cellN_ne h2]
      simp -implicitDefEqProofs only [W3, ↓D3, ↓DA, ↓DP, ↓DC, QX, enc_Rule, hx, hlt, hw1, c2, hsc, hm1, hm2, hm9, SH, keep_15_3, leaf_some, isNormal, Int.reduceToNat, id_eq, Int.reduceBEq, Int.reduceLE, Int.reduceLT, Nat.reduceAdd, Nat.reduceEqDiff, Nat.reduceLT, Nat.reduceLeDiff, Nat.reduceMul, Nat.reduceSub, reduceIte]
      repeat' (split <;> (rename_i h; (try simp -implicitDefEqProofs only [Bool.not_eq_true', Bool.not_eq_false', decide_eq_true_eq, decide_eq_false_iff_not] at h); (try simp -implicitDefEqProofs only [W3, ↓D3, ↓DA, ↓DP, ↓DC, QX, *, enc_Rule, hx, hlt, hw1, c2, hsc, hm1, hm2, hm9, SH, keep_15_3, leaf_some, isNormal, Int.reduceToNat, id_eq, Int.reduceBEq, Int.reduceLE, Int.reduceLT, Nat.reduceAdd, Nat.reduceEqDiff, Nat.reduceLT, Nat.reduceLeDiff, Nat.reduceMul, Nat.reduceSub, reduceIte])))
  · omega
  · simp -implicitDefEqProofs only [firstRegion]
    rw [keep_15_3]
    simp -implicitDefEqProofs only [W3, ↓D3, ↓DA, ↓DP, ↓DC, Int.reduceToNat, id_eq, Int.reduceBEq, Int.reduceLE, Int.reduceLT, SH, Nat.reduceAdd, Nat.reduceEqDiff, Nat.reduceLT, Nat.reduceLeDiff, Nat.reduceMul, Nat.reduceSub, reduceIte]
end Go.Proofs.Ytkolknigffoleaa.Flat
