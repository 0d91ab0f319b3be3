/-
Conditions, rules and policies that are right.
-/
import Derived.Test.YtaojmienjikfbaaGreatDoorEqA
import Derived.Test.YtaojmienjikfbaaGreatDoorEqL
set_option linter.unusedVariables false
set_option linter.unusedSimpArgs false
set_option maxRecDepth 10000
namespace Go.Proofs.YtaojmienjikfbaaGreatDoor.Flat
mutual
def Cond.valid : Cond → Bool
  | ⟨o, a, b, s⟩ => nodeOk o a b s.length && Cond.valids s
def Cond.valids : List Cond → Bool
  | [] => true
  | c :: r => c.valid && Cond.valids r
end
theorem valids_all (s : List Cond) : Cond.valids s = s.all Cond.valid := by
  induction s with
  | nil => rfl
  | cons c r ih => simp [Cond.valids, ih]
theorem Cond.valid_eq (c : Cond) : c.valid = (nodeOk c.op c.a c.b c.args.length && c.args.all Cond.valid) := by
  cases c
  simp -implicitDefEqProofs only [Cond.valid, valids_all]
def isCond (x : Cond) : Bool := decide (((x.w + 1 : Nat) : Int) ≤ 15) && x.valid
def leftStep (_ : Nat) (c : Cond) (m : Int) : Sum Int Int := if 0 ≤ m then .inr (left m (c.w + 1)) else .inl m
theorem leftLoop : ∀ (s : List Cond) (i : Nat) (m : Int), -1 ≤ m → loopL leftStep id i s m = left m (wl Cond.w s)
  | [], i, m, hm => by simp -implicitDefEqProofs only [loopL, wl]; rw [left_zero hm]; rfl
  | c :: r, i, m, hm => by
    simp -implicitDefEqProofs only [loopL, leftStep]
    by_cases h : 0 ≤ m
    · rw [if_pos h]
      simp only
      rw [leftLoop r _ _ (left_lo hm), left_left hm]
      congr 1
      simp -implicitDefEqProofs only [wl]; omega
    · rw [if_neg h]
      simp only
      unfold left
      split <;> omega
theorem r_spec_l15Left0 {fl : Bool} (x : Cond) : ∀ (k : Nat), 281474976710656 + 4 * x.w + 1 ≤ k → x.w ≤ 1099511627776 → ∀ m : Int, 0 ≤ m → m ≤ 1048576 → run E noExt k 95 [x.enc fl, .int .i64 m] [] = some (.int .i64 (left m (x.w + 1)), []) := by
  induction x using Cond.induct with
  | h x ih =>
    intro k hk hx m hm hm2
    rw [x.w_eq] at hk hx ⊢
    have hs1 := Nat.le_trans (wl_length _ x.args) hx
    have hs : x.args.length ≤ 140737488355328 := by omega
    have c1 : ∀ c ∈ x.args, ∀ m : Int, 0 ≤ m → m ≤ 1048576 → run E noExt (k - 1) 95 [c.enc fl, .int .i64 m] [] = some (.int .i64 (left m (c.w + 1)), []) := fun c hc => ih c hc _ (by have := wl_mem (w := Cond.w) hc; omega) (by have := wl_mem (w := Cond.w) hc; omega)
    clear ih
    obtain ⟨k, rfl⟩ : ∃ j, k = j + 1 := ⟨k - 1, by omega⟩
    rw [run_succ rfl rfl, body_eq (nt := 27) (fn := Go.Proofs.Tryz.f95) (by kernel_rfl) rfl rfl rfl rfl rfl rfl rfl rfl]
    simp -implicitDefEqProofs only [Nat.add_sub_cancel] at c1
    have hw0 : IntKind.i64.wrap (m - 1) = m - 1 := IntWalk.i64_in _ (by omega)
    simp -implicitDefEqProofs only [W1, ↓D1, ↓DC, Go.Proofs.Tryz.f95, enc_Cond, hw0, Int.reduceToNat, id_eq, Int.reduceBEq, Int.reduceLE, Int.reduceLT, Nat.reduceAdd, Nat.reduceEqDiff, Nat.reduceLT, Nat.reduceLeDiff, Nat.reduceMul, Nat.reduceSub, reduceIte]
    rw [ev_loop]
    refine Eq.trans (loop_list (Q := fun g x => thenEnd E.P [] _ 0 (thenEv E _ _ _ _ _ (outOf 0 x)) = some (.int .i64 g, [])) (x.args) (leftStep) (id)
      (fun i b => { sl := [(1, .int .i64 b), (2, .ptr 0 0), (5, .int .i64 (i : Nat))], bx := [(0, [.int .i64 x.op, .int .i64 x.a, .int .i64 x.b, .sl fl (x.args.map (Cond.enc fl))])], nx := 1, nt := 27 }) (fun _ m => -1 ≤ m ∧ m ≤ 1048576) (m - 1) ?_ ?_ (by first | omega | (simp; omega)) (⟨by omega, by omega⟩) ?_) ?_
    · intro b hb
      simp -implicitDefEqProofs only [W2, ↓D2, ↓DC, QX, leaf_some, isNormal, Int.reduceToNat, id_eq, Int.reduceBEq, Int.reduceLE, Int.reduceLT, Nat.reduceAdd, Nat.reduceEqDiff, Nat.reduceLT, Nat.reduceLeDiff, Nat.reduceMul, Nat.reduceSub, reduceIte]
      repeat' (split <;> (rename_i h; (try simp -implicitDefEqProofs only [Bool.not_eq_true', Bool.not_eq_false', decide_eq_true_eq, decide_eq_false_iff_not] at h); (try simp -implicitDefEqProofs only [W2, ↓D2, ↓DC, QX, *, leaf_some, isNormal, Int.reduceToNat, id_eq, Int.reduceBEq, Int.reduceLE, Int.reduceLT, Nat.reduceAdd, Nat.reduceEqDiff, Nat.reduceLT, Nat.reduceLeDiff, Nat.reduceMul, Nat.reduceSub, reduceIte])))
    · intro pre c r b hs' ⟨h1, h2⟩
      have hx := (at_row hs' hs).1; have hc := (at_row hs' hs).2.1; have hlt := (at_row hs' hs).2.2.1; have hw1 := (at_row hs' hs).2.2.2.1; have hl9 := (at_row hs' hs).2.2.2.2
      clear hs'
      by_cases h0 : 0 ≤ b
      · have c2 := c1 c hc b h0 h2
        simp -implicitDefEqProofs only [enc_Cond] at c2
        simp -implicitDefEqProofs only [W2, ↓D2, ↓DC, QX, enc_Cond, hx, hlt, hw1, c2, leftStep, h0, keep_95_3, leaf_some, isNormal, Int.reduceToNat, id_eq, Int.reduceBEq, Int.reduceLE, Int.reduceLT, Nat.reduceAdd, Nat.reduceEqDiff, Nat.reduceLT, Nat.reduceLeDiff, Nat.reduceMul, Nat.reduceSub, reduceIte]
        repeat' (split <;> (rename_i h; (try simp -implicitDefEqProofs only [Bool.not_eq_true', Bool.not_eq_false', decide_eq_true_eq, decide_eq_false_iff_not] at h); (try simp -implicitDefEqProofs only [W2, ↓D2, ↓DC, QX, *, enc_Cond, hx, hlt, hw1, c2, leftStep, h0, keep_95_3, leaf_some, isNormal, Int.reduceToNat, id_eq, Int.reduceBEq, Int.reduceLE, Int.reduceLT, Nat.reduceAdd, Nat.reduceEqDiff, Nat.reduceLT, Nat.reduceLeDiff, Nat.reduceMul, Nat.reduceSub, reduceIte])))
        exact ⟨left_lo h1, left_hi h2 (by omega)⟩
      ·
        simp -implicitDefEqProofs only [W2, ↓D2, ↓DC, QX, enc_Cond, hx, hlt, hw1, leftStep, h0, keep_95_3, leaf_some, isNormal, Int.reduceToNat, id_eq, Int.reduceBEq, Int.reduceLE, Int.reduceLT, Nat.reduceAdd, Nat.reduceEqDiff, Nat.reduceLT, Nat.reduceLeDiff, Nat.reduceMul, Nat.reduceSub, reduceIte]
        repeat' (split <;> (rename_i h; (try simp -implicitDefEqProofs only [Bool.not_eq_true', Bool.not_eq_false', decide_eq_true_eq, decide_eq_false_iff_not] at h); (try simp -implicitDefEqProofs only [W2, ↓D2, ↓DC, QX, *, enc_Cond, hx, hlt, hw1, leftStep, h0, keep_95_3, leaf_some, isNormal, Int.reduceToNat, id_eq, Int.reduceBEq, Int.reduceLE, Int.reduceLT, Nat.reduceAdd, Nat.reduceEqDiff, Nat.reduceLT, Nat.reduceLeDiff, Nat.reduceMul, Nat.reduceSub, reduceIte])))
    · simp -implicitDefEqProofs only [firstRegion]; rw [keep_95_3]; simp -implicitDefEqProofs only [W2, ↓D2, ↓DC, Int.reduceToNat, id_eq, Int.reduceBEq, Int.reduceLE, Int.reduceLT, Nat.reduceAdd, Nat.reduceEqDiff, Nat.reduceLT, Nat.reduceLeDiff, Nat.reduceMul, Nat.reduceSub, reduceIte]; first | done | rfl
    · rw [leftLoop _ _ _ (by omega)]
      congr 3
      unfold left
      split <;> split <;> omega
def sizeStep (_ : Nat) (c : Cond) (m : Int) : Sum Int Int := .inr (m + ((c.w + 1 : Nat) : Int))
theorem sizeLoop : ∀ (s : List Cond) (i : Nat) (m : Int), loopL sizeStep id i s m = m + (wl Cond.w s : Nat)
  | [], i, m => by simp [loopL, wl]
  | c :: r, i, m => by
    simp -implicitDefEqProofs only [loopL, sizeStep]
    rw [sizeLoop r]
    simp -implicitDefEqProofs only [wl]; omega
theorem r_impl_SizeOf0 {fl : Bool} (x : Cond) : ∀ (k : Nat), 281474976710656 + 4 * x.w + 1 ≤ k → x.w ≤ 1099511627776 → run E noExt k 99 [x.enc fl] [] = some (.int .i64 ((x.w + 1 : Nat) : Int), []) := by
  induction x using Cond.induct with
  | h x ih =>
    intro k hk hx
    rw [x.w_eq] at hk hx ⊢
    have hs1 := Nat.le_trans (wl_length _ x.args) hx
    have hs : x.args.length ≤ 140737488355328 := by omega
    have c1 : ∀ c ∈ x.args, run E noExt (k - 1) 99 [c.enc fl] [] = some (.int .i64 ((c.w + 1 : Nat) : Int), []) := fun c hc => ih c hc _ (by have := wl_mem (w := Cond.w) hc; omega) (by have := wl_mem (w := Cond.w) hc; omega)
    clear ih
    obtain ⟨k, rfl⟩ : ∃ j, k = j + 1 := ⟨k - 1, by omega⟩
    rw [run_succ rfl rfl, body_eq (nt := 19) (fn := Go.Proofs.Tryz.f99) (by kernel_rfl) rfl rfl rfl rfl rfl rfl rfl rfl]
    simp -implicitDefEqProofs only [Nat.add_sub_cancel] at c1
    simp -implicitDefEqProofs only [W1, ↓D1, ↓DC, Go.Proofs.Tryz.f99, enc_Cond, Int.reduceToNat, id_eq, Int.reduceBEq, Int.reduceLE, Int.reduceLT, Nat.reduceAdd, Nat.reduceEqDiff, Nat.reduceLT, Nat.reduceLeDiff, Nat.reduceMul, Nat.reduceSub, reduceIte]
    rw [ev_loop]
    refine Eq.trans (loop_list (Q := fun g x => thenEnd E.P [] _ 0 (thenEv E _ _ _ _ _ (outOf 0 x)) = some (.int .i64 g, [])) (x.args) (sizeStep) (id)
      (fun i b => { sl := [(3, .int .i64 b), (7, .sl fl (x.args.map (Cond.enc fl))), (8, .int .i64 (x.args.length : Nat)), (9, .int .i64 (i : Nat))], bx := [], nx := 0, nt := 19 }) (fun i m => m = 1 + (wl Cond.w (x.args.take i) : Nat)) (1) ?_ ?_ (by first | omega | (simp; omega)) (by simp [wl]) ?_) ?_
    · intro b hb
      simp -implicitDefEqProofs only [W2, ↓D2, ↓DC, QX, leaf_some, isNormal, Int.reduceToNat, id_eq, Int.reduceBEq, Int.reduceLE, Int.reduceLT, Nat.reduceAdd, Nat.reduceEqDiff, Nat.reduceLT, Nat.reduceLeDiff, Nat.reduceMul, Nat.reduceSub, reduceIte]
      repeat' (split <;> (rename_i h; (try simp -implicitDefEqProofs only [Bool.not_eq_true', Bool.not_eq_false', decide_eq_true_eq, decide_eq_false_iff_not] at h); (try simp -implicitDefEqProofs only [W2, ↓D2, ↓DC, QX, *, leaf_some, isNormal, Int.reduceToNat, id_eq, Int.reduceBEq, Int.reduceLE, Int.reduceLT, Nat.reduceAdd, Nat.reduceEqDiff, Nat.reduceLT, Nat.reduceLeDiff, Nat.reduceMul, Nat.reduceSub, reduceIte])))
    · intro pre c r b hs' hb
      have hx := (at_row hs' hs).1; have hc := (at_row hs' hs).2.1; have hlt := (at_row hs' hs).2.2.1; have hw1 := (at_row hs' hs).2.2.2.1; have hl9 := (at_row hs' hs).2.2.2.2
      have hb2 : b + ((c.w + 1 : Nat) : Int) = 1 + (wl Cond.w (x.args.take (pre.length + 1)) : Nat) := by
        rw [hb, (take_row hs').1, (take_row hs').2, wl_append]
        simp -implicitDefEqProofs only [wl]; omega
      have hw2 : IntKind.i64.wrap (b + ((c.w + 1 : Nat) : Int)) = b + ((c.w + 1 : Nat) : Int) := by
        have e3 : wl Cond.w (x.args.take (pre.length + 1)) + wl Cond.w (x.args.drop (pre.length + 1)) = wl Cond.w x.args := by rw [← wl_append, List.take_append_drop]
        exact IntWalk.i64_in _ (by omega)
      clear hs'
      have c2 := c1 c hc
      simp -implicitDefEqProofs only [enc_Cond] at c2
      simp -implicitDefEqProofs only [W2, ↓D2, ↓DC, QX, enc_Cond, hx, hlt, hw1, c2, hw2, sizeStep, keep_99_3, leaf_some, isNormal, Int.reduceToNat, id_eq, Int.reduceBEq, Int.reduceLE, Int.reduceLT, Nat.reduceAdd, Nat.reduceEqDiff, Nat.reduceLT, Nat.reduceLeDiff, Nat.reduceMul, Nat.reduceSub, reduceIte]
      repeat' (split <;> (rename_i h; (try simp -implicitDefEqProofs only [Bool.not_eq_true', Bool.not_eq_false', decide_eq_true_eq, decide_eq_false_iff_not] at h); (try simp -implicitDefEqProofs only [W2, ↓D2, ↓DC, QX, *, enc_Cond, hx, hlt, hw1, c2, hw2, sizeStep, keep_99_3, leaf_some, isNormal, Int.reduceToNat, id_eq, Int.reduceBEq, Int.reduceLE, Int.reduceLT, Nat.reduceAdd, Nat.reduceEqDiff, Nat.reduceLT, Nat.reduceLeDiff, Nat.reduceMul, Nat.reduceSub, reduceIte])))
      exact hb2
    · simp -implicitDefEqProofs only [firstRegion]; rw [keep_99_3]; simp -implicitDefEqProofs only [W2, ↓D2, ↓DC, Int.reduceToNat, id_eq, Int.reduceBEq, Int.reduceLE, Int.reduceLT, Nat.reduceAdd, Nat.reduceEqDiff, Nat.reduceLT, Nat.reduceLeDiff, Nat.reduceMul, Nat.reduceSub, reduceIte]; first | done | rfl
    · rw [sizeLoop]
      congr 3
      omega
theorem r_spec_l15Valid0 {fl : Bool} (x : Cond) : ∀ (k : Nat), 281474976710656 + 4 * x.w + 4 ≤ k → x.w ≤ 1099511627776 → run E noExt k 96 [x.enc fl] [] = some (.bool x.valid, []) := by
  induction x using Cond.induct with
  | h x ih =>
    intro k hk hx
    rw [x.w_eq] at hk hx
    rw [x.valid_eq]
    have hs1 := Nat.le_trans (wl_length _ x.args) hx
    have hs : x.args.length ≤ 140737488355328 := by omega
    have c1 : ∀ c ∈ x.args, run E noExt (k - 1) 96 [c.enc fl] [] = some (.bool c.valid, []) := fun c hc => ih c hc _ (by have := wl_mem (w := Cond.w) hc; omega) (by have := wl_mem (w := Cond.w) hc; omega)
    clear ih
    have c0 := r_spec_l15Node (k - 1) (by omega) x.op x.a x.b fl (x.args.map (Cond.enc fl))
    obtain ⟨k, rfl⟩ : ∃ j, k = j + 1 := ⟨k - 1, by omega⟩
    rw [run_succ rfl rfl, body_eq (nt := 21) (fn := Go.Proofs.Tryz.f96) (by kernel_rfl) rfl rfl rfl rfl rfl rfl rfl rfl]
    simp -implicitDefEqProofs only [Nat.add_sub_cancel] at c1 c0
    simp -implicitDefEqProofs only [W1, ↓D1, ↓DC, QX, Go.Proofs.Tryz.f96, enc_Cond, c0, Int.reduceToNat, id_eq, Int.reduceBEq, Int.reduceLE, Int.reduceLT, Nat.reduceAdd, Nat.reduceEqDiff, Nat.reduceLT, Nat.reduceLeDiff, Nat.reduceMul, Nat.reduceSub, reduceIte]
    repeat' (split <;> (rename_i h; (try simp -implicitDefEqProofs only [Bool.not_eq_true', Bool.not_eq_false', decide_eq_true_eq, decide_eq_false_iff_not] at h); (try simp -implicitDefEqProofs only [W1, ↓D1, ↓DC, QX, *, enc_Cond, c0, Int.reduceToNat, id_eq, Int.reduceBEq, Int.reduceLE, Int.reduceLT, Nat.reduceAdd, Nat.reduceEqDiff, Nat.reduceLT, Nat.reduceLeDiff, Nat.reduceMul, Nat.reduceSub, reduceIte])))
    · rename_i h
      rw [ev_loop]
      refine Eq.trans (loop_list (Q := fun g x => thenEnd E.P [] _ 0 (thenEv E _ _ _ _ _ (outOf 0 x)) = some (.bool g, [])) (x.args) (allStep Cond.valid) (fun _ => true)
        (fun i b => { sl := [(1, .ptr 0 0), (3, .int .i64 (i : Nat))], bx := [(0, [.int .i64 x.op, .int .i64 x.a, .int .i64 x.b, .sl fl (x.args.map (Cond.enc fl))])], nx := 1, nt := 21 }) (fun _ _ => True) (()) ?_ ?_ (by first | omega | (simp; omega)) (trivial) ?_) ?_
      · intro b hb
        simp -implicitDefEqProofs only [W2, ↓D2, ↓DC, QX, leaf_some, isNormal, Int.reduceToNat, id_eq, Int.reduceBEq, Int.reduceLE, Int.reduceLT, Nat.reduceAdd, Nat.reduceEqDiff, Nat.reduceLT, Nat.reduceLeDiff, Nat.reduceMul, Nat.reduceSub, reduceIte]
        repeat' (split <;> (rename_i h; (try simp -implicitDefEqProofs only [Bool.not_eq_true', Bool.not_eq_false', decide_eq_true_eq, decide_eq_false_iff_not] at h); (try simp -implicitDefEqProofs only [W2, ↓D2, ↓DC, QX, *, leaf_some, isNormal, Int.reduceToNat, id_eq, Int.reduceBEq, Int.reduceLE, Int.reduceLT, Nat.reduceAdd, Nat.reduceEqDiff, Nat.reduceLT, Nat.reduceLeDiff, Nat.reduceMul, Nat.reduceSub, reduceIte])))
      · intro pre c r b hs' hb
        have hx := (at_row hs' hs).1; have hc := (at_row hs' hs).2.1; have hlt := (at_row hs' hs).2.2.1; have hw1 := (at_row hs' hs).2.2.2.1; have hl9 := (at_row hs' hs).2.2.2.2
        clear hs'
        have c2 := c1 c hc
        simp -implicitDefEqProofs only [enc_Cond] at c2
        simp -implicitDefEqProofs only [W2, ↓D2, ↓DC, QX, enc_Cond, hx, hlt, hw1, c2, allStep, keep_96_4, leaf_some, isNormal, Int.reduceToNat, id_eq, Int.reduceBEq, Int.reduceLE, Int.reduceLT, Nat.reduceAdd, Nat.reduceEqDiff, Nat.reduceLT, Nat.reduceLeDiff, Nat.reduceMul, Nat.reduceSub, reduceIte]
        repeat' (split <;> (rename_i h; (try simp -implicitDefEqProofs only [Bool.not_eq_true', Bool.not_eq_false', decide_eq_true_eq, decide_eq_false_iff_not] at h); (try simp -implicitDefEqProofs only [W2, ↓D2, ↓DC, QX, *, enc_Cond, hx, hlt, hw1, c2, allStep, keep_96_4, leaf_some, isNormal, Int.reduceToNat, id_eq, Int.reduceBEq, Int.reduceLE, Int.reduceLT, Nat.reduceAdd, Nat.reduceEqDiff, Nat.reduceLT, Nat.reduceLeDiff, Nat.reduceMul, Nat.reduceSub, reduceIte])))
      · simp -implicitDefEqProofs only [firstRegion]; rw [keep_96_4]; simp -implicitDefEqProofs only [W2, ↓D2, ↓DC, Int.reduceToNat, id_eq, Int.reduceBEq, Int.reduceLE, Int.reduceLT, Nat.reduceAdd, Nat.reduceEqDiff, Nat.reduceLT, Nat.reduceLeDiff, Nat.reduceMul, Nat.reduceSub, reduceIte]; first | done | rfl
      · rw [allLoop]
theorem r_impl_areNodes0 {fl : Bool} (x : Cond) : ∀ (k : Nat), 281474976710656 + 4 * x.w + 5 ≤ k → x.w ≤ 1099511627776 → run E noExt k 100 [x.enc fl] [] = some (.bool x.valid, []) := by
  induction x using Cond.induct with
  | h x ih =>
    intro k hk hx
    rw [x.w_eq] at hk hx
    rw [x.valid_eq]
    have hs1 := Nat.le_trans (wl_length _ x.args) hx
    have c1 : ∀ c ∈ x.args, run E noExt (k - 4) 100 [c.enc fl] [] = some (.bool c.valid, []) := fun c hc => ih c hc _ (by have := wl_mem (w := Cond.w) hc; omega) (by have := wl_mem (w := Cond.w) hc; omega)
    clear ih
    have c3 : ∀ c ∈ x.args, run E noExt (k - 3) 121 [c.enc fl] [] = some (.bool (!c.valid), []) := by
      intro c hc
      have c2 := c1 c hc
      rw [show k - 3 = (k - 4) + 1 by omega]
      rw [run_succ rfl rfl, body_eq (nt := 6) (fn := Go.Proofs.Tryz.f121) (by kernel_rfl) rfl rfl rfl rfl rfl rfl rfl rfl]
      simp -implicitDefEqProofs only [enc_Cond] at c2 ⊢
      simp -implicitDefEqProofs only [W1, ↓D1, ↓DC, QX, Go.Proofs.Tryz.f121, c2, Int.reduceToNat, id_eq, Int.reduceBEq, Int.reduceLE, Int.reduceLT, Nat.reduceAdd, Nat.reduceEqDiff, Nat.reduceLT, Nat.reduceLeDiff, Nat.reduceMul, Nat.reduceSub, reduceIte]
      repeat' (split <;> (rename_i h; (try simp -implicitDefEqProofs only [Bool.not_eq_true', Bool.not_eq_false', decide_eq_true_eq, decide_eq_false_iff_not] at h); (try simp -implicitDefEqProofs only [W1, ↓D1, ↓DC, QX, *, c2, Int.reduceToNat, id_eq, Int.reduceBEq, Int.reduceLE, Int.reduceLT, Nat.reduceAdd, Nat.reduceEqDiff, Nat.reduceLT, Nat.reduceLeDiff, Nat.reduceMul, Nat.reduceSub, reduceIte])))
    have c0 := r_impl_isNode (k - 1) (by omega) x.op x.a x.b fl (x.args.map (Cond.enc fl))
    have c4 := r_slices_ContainsFunc_Cond (fl := fl) (k - 1) x.args (by omega) (by omega) 121 [] plain_nil (fun c => !c.valid) (by rw [show k - 1 - 2 = k - 3 by omega]; exact c3)
    obtain ⟨k, rfl⟩ : ∃ j, k = j + 1 := ⟨k - 1, by omega⟩
    rw [run_succ rfl rfl, body_eq (nt := 11) (fn := Go.Proofs.Tryz.f100) (by kernel_rfl) rfl rfl rfl rfl rfl rfl rfl rfl]
    simp -implicitDefEqProofs only [Nat.add_sub_cancel, List.length_map] at c4 c0
    have ha : x.args.all Cond.valid = !(x.args.any fun c => !c.valid) := List.all_eq_not_any_not
    simp -implicitDefEqProofs only [W1, ↓D1, ↓DC, QX, Go.Proofs.Tryz.f100, enc_Cond, c0, c4, ha, Int.reduceToNat, id_eq, Int.reduceBEq, Int.reduceLE, Int.reduceLT, Nat.reduceAdd, Nat.reduceEqDiff, Nat.reduceLT, Nat.reduceLeDiff, Nat.reduceMul, Nat.reduceSub, reduceIte]
    repeat' (split <;> (rename_i h; (try simp -implicitDefEqProofs only [Bool.not_eq_true', Bool.not_eq_false', decide_eq_true_eq, decide_eq_false_iff_not] at h); (try simp -implicitDefEqProofs only [W1, ↓D1, ↓DC, QX, *, enc_Cond, c0, c4, ha, Int.reduceToNat, id_eq, Int.reduceBEq, Int.reduceLE, Int.reduceLT, Nat.reduceAdd, Nat.reduceEqDiff, Nat.reduceLT, Nat.reduceLeDiff, Nat.reduceMul, Nat.reduceSub, reduceIte])))
theorem r_spec_IsCond {fl : Bool} (k : Nat) (hk : 290271069732864 + 6 ≤ k) (x : Cond) (hx : x.w ≤ 1099511627776) : run E noExt k 70 [x.enc fl] [] = some (.bool (isCond x), []) := by
  have c1 := r_spec_l15Left0 (fl := fl) x (k - 1) (by omega) hx 15 (by omega) (by omega)
  have c2 := r_spec_l15Valid0 (fl := fl) x (k - 1) (by omega) hx
  obtain ⟨k, rfl⟩ : ∃ j, k = j + 1 := ⟨k - 1, by omega⟩
  rw [run_succ rfl rfl, body_eq (nt := 10) (fn := Go.Proofs.Tryz.f70) (by kernel_rfl) rfl rfl rfl rfl rfl rfl rfl rfl]
  simp -implicitDefEqProofs only [Nat.add_sub_cancel, enc_Cond] at c1 c2
  have e : decide (0 ≤ left 15 (x.w + 1)) = decide (((x.w + 1 : Nat) : Int) ≤ 15) := by
    rw [Bool.eq_iff_iff, decide_eq_true_iff, decide_eq_true_iff]
    unfold left
    split <;> omega
  simp -implicitDefEqProofs only [W1, ↓D1, ↓DC, Go.Proofs.Tryz.f70, enc_Cond, c1, c2, e, isCond, ifEv_bool, gate_bool, pick_bool, Int.reduceToNat, id_eq, Int.reduceBEq, Int.reduceLE, Int.reduceLT, Nat.reduceAdd, Nat.reduceEqDiff, Nat.reduceLT, Nat.reduceLeDiff, Nat.reduceMul, Nat.reduceSub, reduceIte]
  by_cases hq : ((x.w + 1 : Nat) : Int) ≤ 15 <;> simp -implicitDefEqProofs only [↓DC, QS, ZRS, ↓ZDS, hq, c2, SS, one_ne2, num_ne2, TIS, MDS, Nat.reduceAdd, Nat.reduceEqDiff, Nat.reduceLT, Nat.reduceLeDiff, Nat.reduceMul, Nat.reduceSub, reduceIte]
theorem r_impl_IsCond {fl : Bool} (k : Nat) (hk : 290271069732864 + 6 ≤ k) (x : Cond) (hx : x.w ≤ 1099511627776) : run E noExt k 76 [x.enc fl] [] = some (.bool (isCond x), []) := by
  have c1 := r_impl_SizeOf0 (fl := fl) x (k - 1) (by omega) hx
  have c2 := r_impl_areNodes0 (fl := fl) x (k - 1) (by omega) hx
  obtain ⟨k, rfl⟩ : ∃ j, k = j + 1 := ⟨k - 1, by omega⟩
  rw [run_succ rfl rfl, body_eq (nt := 10) (fn := Go.Proofs.Tryz.f76) (by kernel_rfl) rfl rfl rfl rfl rfl rfl rfl rfl]
  simp -implicitDefEqProofs only [Nat.add_sub_cancel, enc_Cond] at c1 c2
  simp -implicitDefEqProofs only [W1, ↓D1, ↓DC, Go.Proofs.Tryz.f76, enc_Cond, c1, c2, isCond, ifEv_bool, gate_bool, pick_bool, Int.reduceToNat, id_eq, Int.reduceBEq, Int.reduceLE, Int.reduceLT, Nat.reduceAdd, Nat.reduceEqDiff, Nat.reduceLT, Nat.reduceLeDiff, Nat.reduceMul, Nat.reduceSub, reduceIte]
  by_cases hq : ((x.w + 1 : Nat) : Int) ≤ 15 <;> simp -implicitDefEqProofs only [↓DC, QS, ZRS, ↓ZDS, hq, c2, SS, one_ne2, num_ne2, TIS, MDS, Nat.reduceAdd, Nat.reduceEqDiff, Nat.reduceLT, Nat.reduceLeDiff, Nat.reduceMul, Nat.reduceSub, reduceIte]
def isName (n : Int) : Bool := inR n 10 49
theorem r_spec_IsName (k : Nat) (hk : 281474976710656 + 2 ≤ k) (n : Int) : run E noExt k 69 [.int .i64 n] [] = some (.bool (isName n), []) := by
  obtain ⟨k, rfl⟩ : ∃ j, k = j + 1 := ⟨k - 1, by omega⟩
  rw [run_succ rfl rfl, body_eq (nt := 5) (fn := Go.Proofs.Tryz.f69) (by kernel_rfl) rfl rfl rfl rfl rfl rfl rfl rfl]
  have c_spec_l1In := r_spec_l1In k (by omega)
  simp -implicitDefEqProofs only [W1, ↓D1, ↓DC, QX, Go.Proofs.Tryz.f69, c_spec_l1In, Int.reduceToNat, id_eq, Int.reduceBEq, Int.reduceLE, Int.reduceLT, Nat.reduceAdd, Nat.reduceEqDiff, Nat.reduceLT, Nat.reduceLeDiff, Nat.reduceMul, Nat.reduceSub, reduceIte]
  repeat' (split <;> (rename_i h; (try simp -implicitDefEqProofs only [Bool.not_eq_true', Bool.not_eq_false', decide_eq_true_eq, decide_eq_false_iff_not] at h); (try simp -implicitDefEqProofs only [W1, ↓D1, ↓DC, QX, *, c_spec_l1In, Int.reduceToNat, id_eq, Int.reduceBEq, Int.reduceLE, Int.reduceLT, Nat.reduceAdd, Nat.reduceEqDiff, Nat.reduceLT, Nat.reduceLeDiff, Nat.reduceMul, Nat.reduceSub, reduceIte])))
  rfl
theorem r_impl_IsName (k : Nat) (hk : 281474976710656 + 2 ≤ k) (n : Int) : run E noExt k 73 [.int .i64 n] [] = some (.bool (isName n), []) := by
  obtain ⟨k, rfl⟩ : ∃ j, k = j + 1 := ⟨k - 1, by omega⟩
  rw [run_succ rfl rfl, body_eq (nt := 5) (fn := Go.Proofs.Tryz.f73) (by kernel_rfl) rfl rfl rfl rfl rfl rfl rfl rfl]
  have c_impl_InRange := r_impl_InRange k (by omega)
  simp -implicitDefEqProofs only [W1, ↓D1, ↓DC, QX, Go.Proofs.Tryz.f73, c_impl_InRange, Int.reduceToNat, id_eq, Int.reduceBEq, Int.reduceLE, Int.reduceLT, Nat.reduceAdd, Nat.reduceEqDiff, Nat.reduceLT, Nat.reduceLeDiff, Nat.reduceMul, Nat.reduceSub, reduceIte]
  repeat' (split <;> (rename_i h; (try simp -implicitDefEqProofs only [Bool.not_eq_true', Bool.not_eq_false', decide_eq_true_eq, decide_eq_false_iff_not] at h); (try simp -implicitDefEqProofs only [W1, ↓D1, ↓DC, QX, *, c_impl_InRange, Int.reduceToNat, id_eq, Int.reduceBEq, Int.reduceLE, Int.reduceLT, Nat.reduceAdd, Nat.reduceEqDiff, Nat.reduceLT, Nat.reduceLeDiff, Nat.reduceMul, Nat.reduceSub, reduceIte])))
  rfl
def kindOf (n : Int) : Int := if isName n = true then IntKind.i64.wrap (n.tdiv 10) else 0
def hasKind (n k : Int) : Bool := isName n && (IntKind.i64.wrap (n.tdiv 10) == k)
theorem r_impl_KindOf (k : Nat) (hk : 281474976710656 + 3 ≤ k) (n : Int) : run E noExt k 74 [.int .i64 n] [] = some (.int .i64 (kindOf n), []) := by
  obtain ⟨k, rfl⟩ : ∃ j, k = j + 1 := ⟨k - 1, by omega⟩
  rw [run_succ rfl rfl, body_eq (nt := 8) (fn := Go.Proofs.Tryz.f74) (by kernel_rfl) rfl rfl rfl rfl rfl rfl rfl rfl]
  have c_impl_IsName := r_impl_IsName k (by omega)
  simp -implicitDefEqProofs only [W1, ↓D1, ↓DC, QX, Go.Proofs.Tryz.f74, c_impl_IsName, Int.reduceToNat, id_eq, Int.reduceBEq, Int.reduceLE, Int.reduceLT, Nat.reduceAdd, Nat.reduceEqDiff, Nat.reduceLT, Nat.reduceLeDiff, Nat.reduceMul, Nat.reduceSub, reduceIte]
  repeat' (split <;> (rename_i h; (try simp -implicitDefEqProofs only [Bool.not_eq_true', Bool.not_eq_false', decide_eq_true_eq, decide_eq_false_iff_not] at h); (try simp -implicitDefEqProofs only [W1, ↓D1, ↓DC, QX, *, c_impl_IsName, Int.reduceToNat, id_eq, Int.reduceBEq, Int.reduceLE, Int.reduceLT, Nat.reduceAdd, Nat.reduceEqDiff, Nat.reduceLT, Nat.reduceLeDiff, Nat.reduceMul, Nat.reduceSub, reduceIte])))
  all_goals simp -implicitDefEqProofs only [kindOf, *, reduceIte, Bool.false_eq_true]
theorem r_spec_HasKind (k : Nat) (hk : 281474976710656 + 3 ≤ k) (n j : Int) : run E noExt k 44 [.int .i64 n, .int .i64 j] [] = some (.bool (hasKind n j), []) := by
  obtain ⟨k, rfl⟩ : ∃ j, k = j + 1 := ⟨k - 1, by omega⟩
  rw [run_succ rfl rfl, body_eq (nt := 13) (fn := Go.Proofs.Tryz.f44) (by kernel_rfl) rfl rfl rfl rfl rfl rfl rfl rfl]
  have c_spec_IsName := r_spec_IsName k (by omega)
  simp -implicitDefEqProofs only [W1, ↓D1, ↓DC, QX, Go.Proofs.Tryz.f44, c_spec_IsName, Int.reduceToNat, id_eq, Int.reduceBEq, Int.reduceLE, Int.reduceLT, Nat.reduceAdd, Nat.reduceEqDiff, Nat.reduceLT, Nat.reduceLeDiff, Nat.reduceMul, Nat.reduceSub, reduceIte]
  repeat' (split <;> (rename_i h; (try simp -implicitDefEqProofs only [Bool.not_eq_true', Bool.not_eq_false', decide_eq_true_eq, decide_eq_false_iff_not] at h); (try simp -implicitDefEqProofs only [W1, ↓D1, ↓DC, QX, *, c_spec_IsName, Int.reduceToNat, id_eq, Int.reduceBEq, Int.reduceLE, Int.reduceLT, Nat.reduceAdd, Nat.reduceEqDiff, Nat.reduceLT, Nat.reduceLeDiff, Nat.reduceMul, Nat.reduceSub, reduceIte])))
  all_goals simp -implicitDefEqProofs only [hasKind, *, Bool.true_and, Bool.false_and]
theorem r_impl_HasKind (k : Nat) (hk : 281474976710656 + 4 ≤ k) (n j : Int) : run E noExt k 51 [.int .i64 n, .int .i64 j] [] = some (.bool (hasKind n j), []) := by
  obtain ⟨k, rfl⟩ : ∃ j, k = j + 1 := ⟨k - 1, by omega⟩
  rw [run_succ rfl rfl, body_eq (nt := 13) (fn := Go.Proofs.Tryz.f51) (by kernel_rfl) rfl rfl rfl rfl rfl rfl rfl rfl]
  have c_impl_IsName := r_impl_IsName k (by omega)
  have c_impl_KindOf := r_impl_KindOf k (by omega)
  simp -implicitDefEqProofs only [W1, ↓D1, ↓DC, QX, Go.Proofs.Tryz.f51, c_impl_IsName, c_impl_KindOf, Int.reduceToNat, id_eq, Int.reduceBEq, Int.reduceLE, Int.reduceLT, Nat.reduceAdd, Nat.reduceEqDiff, Nat.reduceLT, Nat.reduceLeDiff, Nat.reduceMul, Nat.reduceSub, reduceIte]
  repeat' (split <;> (rename_i h; (try simp -implicitDefEqProofs only [Bool.not_eq_true', Bool.not_eq_false', decide_eq_true_eq, decide_eq_false_iff_not] at h); (try simp -implicitDefEqProofs only [W1, ↓D1, ↓DC, QX, *, c_impl_IsName, c_impl_KindOf, Int.reduceToNat, id_eq, Int.reduceBEq, Int.reduceLE, Int.reduceLT, Nat.reduceAdd, Nat.reduceEqDiff, Nat.reduceLT, Nat.reduceLeDiff, Nat.reduceMul, Nat.reduceSub, reduceIte])))
  all_goals simp -implicitDefEqProofs only [hasKind, kindOf, *, Bool.true_and, Bool.false_and, reduceIte, Bool.false_eq_true]
def isRule (r : Rule) : Bool := (inR r.effect 0 1 && inR r.action (-1) 5) && ((r.object == -1) || hasKind r.object 4) && isCond r.cond
theorem r_spec_IsRule {fl : Bool} (k : Nat) (hk : 290271069732864 + 7 ≤ k) (x : Rule) (hx : x.w ≤ 1099511627776) : run E noExt k 47 [x.enc fl] [] = some (.bool (isRule x), []) := by
  have c1 := r_spec_IsCond (fl := fl) (k - 1) (by omega) x.cond hx
  obtain ⟨k, rfl⟩ : ∃ j, k = j + 1 := ⟨k - 1, by omega⟩
  rw [run_succ rfl rfl, body_eq (nt := 26) (fn := Go.Proofs.Tryz.f47) (by kernel_rfl) rfl rfl rfl rfl rfl rfl rfl rfl]
  simp -implicitDefEqProofs only [Nat.add_sub_cancel, enc_Cond] at c1
  have c_spec_HasKind := r_spec_HasKind k (by omega)
  have c_spec_l1In := r_spec_l1In k (by omega)
  simp -implicitDefEqProofs only [W1, ↓D1, ↓DC, QX, Go.Proofs.Tryz.f47, c_spec_HasKind, c_spec_l1In, enc_Rule, c1, Int.reduceToNat, id_eq, Int.reduceBEq, Int.reduceLE, Int.reduceLT, Nat.reduceAdd, Nat.reduceEqDiff, Nat.reduceLT, Nat.reduceLeDiff, Nat.reduceMul, Nat.reduceSub, reduceIte]
  repeat' (split <;> (rename_i h; (try simp -implicitDefEqProofs only [Bool.not_eq_true', Bool.not_eq_false', decide_eq_true_eq, decide_eq_false_iff_not] at h); (try simp -implicitDefEqProofs only [W1, ↓D1, ↓DC, QX, *, c_spec_HasKind, c_spec_l1In, enc_Rule, c1, Int.reduceToNat, id_eq, Int.reduceBEq, Int.reduceLE, Int.reduceLT, Nat.reduceAdd, Nat.reduceEqDiff, Nat.reduceLT, Nat.reduceLeDiff, Nat.reduceMul, Nat.reduceSub, reduceIte])))
  all_goals simp -implicitDefEqProofs only [isRule, *, Bool.true_and, Bool.false_and, Bool.and_true, Bool.and_false, Bool.or_true, Bool.true_or, Bool.false_or]
theorem r_impl_IsRule {fl : Bool} (k : Nat) (hk : 290271069732864 + 7 ≤ k) (x : Rule) (hx : x.w ≤ 1099511627776) : run E noExt k 56 [x.enc fl] [] = some (.bool (isRule x), []) := by
  have c1 := r_impl_IsCond (fl := fl) (k - 1) (by omega) x.cond hx
  obtain ⟨k, rfl⟩ : ∃ j, k = j + 1 := ⟨k - 1, by omega⟩
  rw [run_succ rfl rfl, body_eq (nt := 26) (fn := Go.Proofs.Tryz.f56) (by kernel_rfl) rfl rfl rfl rfl rfl rfl rfl rfl]
  simp -implicitDefEqProofs only [Nat.add_sub_cancel, enc_Cond] at c1
  have c_impl_HasKind := r_impl_HasKind k (by omega)
  have c_impl_InRange := r_impl_InRange k (by omega)
  simp -implicitDefEqProofs only [W1, ↓D1, ↓DC, QX, Go.Proofs.Tryz.f56, c_impl_HasKind, c_impl_InRange, enc_Rule, c1, Int.reduceToNat, id_eq, Int.reduceBEq, Int.reduceLE, Int.reduceLT, Nat.reduceAdd, Nat.reduceEqDiff, Nat.reduceLT, Nat.reduceLeDiff, Nat.reduceMul, Nat.reduceSub, reduceIte]
  repeat' (split <;> (rename_i h; (try simp -implicitDefEqProofs only [Bool.not_eq_true', Bool.not_eq_false', decide_eq_true_eq, decide_eq_false_iff_not] at h); (try simp -implicitDefEqProofs only [W1, ↓D1, ↓DC, QX, *, c_impl_HasKind, c_impl_InRange, enc_Rule, c1, Int.reduceToNat, id_eq, Int.reduceBEq, Int.reduceLE, Int.reduceLT, Nat.reduceAdd, Nat.reduceEqDiff, Nat.reduceLT, Nat.reduceLeDiff, Nat.reduceMul, Nat.reduceSub, reduceIte])))
  all_goals simp -implicitDefEqProofs only [isRule, *, Bool.true_and, Bool.false_and, Bool.and_true, Bool.and_false, Bool.or_true, Bool.true_or, Bool.false_or]
def isPolicy (p : Policy) : Bool := (inR p.version 0 999 && decide ((p.rules.length : Int) ≤ 8)) && p.rules.all isRule
theorem r_spec_IsPolicy {fl : Bool} (k : Nat) (hk : 290271069732864 + 8 ≤ k) (x : Policy) (hx : x.w ≤ 1099511627776) : run E noExt k 25 [x.enc fl] [] = some (.bool (isPolicy x), []) := by
  unfold Policy.w at hx
  have hs1 := Nat.le_trans (wl_length _ x.rules) hx
  have hs : x.rules.length ≤ 140737488355328 := by omega
  have c1 : ∀ c ∈ x.rules, run E noExt (k - 1) 47 [c.enc fl] [] = some (.bool (isRule c), []) := fun c hc => r_spec_IsRule _ (by omega) c (by have := wl_mem (w := Rule.w) hc; omega)
  have c0 := r_spec_l1In (k - 1) (by omega)
  obtain ⟨k, rfl⟩ : ∃ j, k = j + 1 := ⟨k - 1, by omega⟩
  rw [run_succ rfl rfl, body_eq (nt := 27) (fn := Go.Proofs.Tryz.f25) (by kernel_rfl) rfl rfl rfl rfl rfl rfl rfl rfl]
  simp -implicitDefEqProofs only [Nat.add_sub_cancel] at c1 c0
  simp -implicitDefEqProofs only [W1, ↓D1, ↓DC, Go.Proofs.Tryz.f25, enc_Policy, Int.reduceToNat, id_eq, Int.reduceBEq, Int.reduceLE, Int.reduceLT, Nat.reduceAdd, Nat.reduceEqDiff, Nat.reduceLT, Nat.reduceLeDiff, Nat.reduceMul, Nat.reduceSub, reduceIte]
  rw [ev_loop]
  refine Eq.trans (loop_list (Q := fun g x => thenEnd E.P [] _ 0 (thenEv E _ _ _ _ _ (outOf 0 x)) = some (.bool g, [])) (x.rules) (allStep isRule) (fun _ => inR x.version 0 999 && decide ((x.rules.length : Int) ≤ 8))
    (fun i b => { sl := [(1, .ptr 0 0), (3, .int .i64 (i : Nat))], bx := [(0, [.int .i64 x.version, .sl fl (x.rules.map (Rule.enc fl))])], nx := 1, nt := 27 }) (fun _ _ => True) (()) ?_ ?_ (by first | omega | (simp; omega)) (trivial) ?_) ?_
  · intro b hb
    simp -implicitDefEqProofs only [W2, ↓D2, ↓DC, QX, c0, leaf_some, isNormal, Int.reduceToNat, id_eq, Int.reduceBEq, Int.reduceLE, Int.reduceLT, Nat.reduceAdd, Nat.reduceEqDiff, Nat.reduceLT, Nat.reduceLeDiff, Nat.reduceMul, Nat.reduceSub, reduceIte]
    repeat' (split <;> (rename_i h; (try simp -implicitDefEqProofs only [Bool.not_eq_true', Bool.not_eq_false', decide_eq_true_eq, decide_eq_false_iff_not] at h); (try simp -implicitDefEqProofs only [W2, ↓D2, ↓DC, QX, *, c0, leaf_some, isNormal, Int.reduceToNat, id_eq, Int.reduceBEq, Int.reduceLE, Int.reduceLT, Nat.reduceAdd, Nat.reduceEqDiff, Nat.reduceLT, Nat.reduceLeDiff, Nat.reduceMul, Nat.reduceSub, reduceIte])))
  · intro pre c r b hs' hb
    have hx := (at_row hs' hs).1; have hc := (at_row hs' hs).2.1; have hlt := (at_row hs' hs).2.2.1; have hw1 := (at_row hs' hs).2.2.2.1; have hl9 := (at_row hs' hs).2.2.2.2
    clear hs'
    have c2 := c1 c hc
    simp -implicitDefEqProofs only [enc_Rule] at c2
    simp -implicitDefEqProofs only [W2, ↓D2, ↓DC, QX, enc_Rule, hx, hlt, hw1, c2, allStep, keep_25_2, leaf_some, isNormal, Int.reduceToNat, id_eq, Int.reduceBEq, Int.reduceLE, Int.reduceLT, Nat.reduceAdd, Nat.reduceEqDiff, Nat.reduceLT, Nat.reduceLeDiff, Nat.reduceMul, Nat.reduceSub, reduceIte]
    repeat' (split <;> (rename_i h; (try simp -implicitDefEqProofs only [Bool.not_eq_true', Bool.not_eq_false', decide_eq_true_eq, decide_eq_false_iff_not] at h); (try simp -implicitDefEqProofs only [W2, ↓D2, ↓DC, QX, *, enc_Rule, hx, hlt, hw1, c2, allStep, keep_25_2, leaf_some, isNormal, Int.reduceToNat, id_eq, Int.reduceBEq, Int.reduceLE, Int.reduceLT, Nat.reduceAdd, Nat.reduceEqDiff, Nat.reduceLT, Nat.reduceLeDiff, Nat.reduceMul, Nat.reduceSub, reduceIte])))
  · simp -implicitDefEqProofs only [firstRegion]; rw [keep_25_2]; simp -implicitDefEqProofs only [W2, ↓D2, ↓DC, Int.reduceToNat, id_eq, Int.reduceBEq, Int.reduceLE, Int.reduceLT, Nat.reduceAdd, Nat.reduceEqDiff, Nat.reduceLT, Nat.reduceLeDiff, Nat.reduceMul, Nat.reduceSub, reduceIte]; first | done | rfl
  · rw [allLoop2]
    simp -implicitDefEqProofs only [isPolicy, Bool.and_comm]
theorem r_impl_IsPolicy {fl : Bool} (k : Nat) (hk : 290271069732864 + 12 ≤ k) (x : Policy) (hx : x.w ≤ 1099511627776) : run E noExt k 32 [x.enc fl] [] = some (.bool (isPolicy x), []) := by
  unfold Policy.w at hx
  have hs1 := Nat.le_trans (wl_length _ x.rules) hx
  have c3 : ∀ c ∈ x.rules, run E noExt (k - 3) 55 [c.enc fl] [] = some (.bool (!isRule c), []) := by
    intro c hc
    have c2 := r_impl_IsRule (fl := fl) (k - 4) (by omega) c (by have := wl_mem (w := Rule.w) hc; omega)
    rw [show k - 3 = (k - 4) + 1 by omega]
    rw [run_succ rfl rfl, body_eq (nt := 6) (fn := Go.Proofs.Tryz.f55) (by kernel_rfl) rfl rfl rfl rfl rfl rfl rfl rfl]
    simp -implicitDefEqProofs only [enc_Rule] at c2 ⊢
    simp -implicitDefEqProofs only [W1, ↓D1, ↓DC, QX, Go.Proofs.Tryz.f55, c2, Int.reduceToNat, id_eq, Int.reduceBEq, Int.reduceLE, Int.reduceLT, Nat.reduceAdd, Nat.reduceEqDiff, Nat.reduceLT, Nat.reduceLeDiff, Nat.reduceMul, Nat.reduceSub, reduceIte]
    repeat' (split <;> (rename_i h; (try simp -implicitDefEqProofs only [Bool.not_eq_true', Bool.not_eq_false', decide_eq_true_eq, decide_eq_false_iff_not] at h); (try simp -implicitDefEqProofs only [W1, ↓D1, ↓DC, QX, *, c2, Int.reduceToNat, id_eq, Int.reduceBEq, Int.reduceLE, Int.reduceLT, Nat.reduceAdd, Nat.reduceEqDiff, Nat.reduceLT, Nat.reduceLeDiff, Nat.reduceMul, Nat.reduceSub, reduceIte])))
  have c4 := r_slices_ContainsFunc_Rule (fl := fl) (k - 1) x.rules (by omega) (by omega) 55 [] plain_nil (fun c => !isRule c) (by rw [show k - 1 - 2 = k - 3 by omega]; exact c3)
  have c0 := r_impl_InRange (k - 1) (by omega)
  obtain ⟨k, rfl⟩ : ∃ j, k = j + 1 := ⟨k - 1, by omega⟩
  rw [run_succ rfl rfl, body_eq (nt := 18) (fn := Go.Proofs.Tryz.f32) (by kernel_rfl) rfl rfl rfl rfl rfl rfl rfl rfl]
  simp -implicitDefEqProofs only [Nat.add_sub_cancel] at c4 c0
  have ha : x.rules.all isRule = !(x.rules.any fun c => !isRule c) := List.all_eq_not_any_not
  simp -implicitDefEqProofs only [W1, ↓D1, ↓DC, QX, Go.Proofs.Tryz.f32, enc_Policy, c0, c4, ha, isPolicy, Int.reduceToNat, id_eq, Int.reduceBEq, Int.reduceLE, Int.reduceLT, Nat.reduceAdd, Nat.reduceEqDiff, Nat.reduceLT, Nat.reduceLeDiff, Nat.reduceMul, Nat.reduceSub, reduceIte]
  repeat' (split <;> (rename_i h; (try simp -implicitDefEqProofs only [Bool.not_eq_true', Bool.not_eq_false', decide_eq_true_eq, decide_eq_false_iff_not] at h); (try simp -implicitDefEqProofs only [W1, ↓D1, ↓DC, QX, *, enc_Policy, c0, c4, ha, isPolicy, Int.reduceToNat, id_eq, Int.reduceBEq, Int.reduceLE, Int.reduceLT, Nat.reduceAdd, Nat.reduceEqDiff, Nat.reduceLT, Nat.reduceLeDiff, Nat.reduceMul, Nat.reduceSub, reduceIte])))
end Go.Proofs.YtaojmienjikfbaaGreatDoor.Flat
