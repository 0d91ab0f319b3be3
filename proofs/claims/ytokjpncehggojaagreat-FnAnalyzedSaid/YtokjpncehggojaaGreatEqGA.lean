/-
Diagrams built from tables: what they answer. Plain lists alone.
-/
import Derived.Test.YtokjpncehggojaaGreatEqU
import Derived.Test.YtokjpncehggojaaGreatEqFA
import Derived.Test.YtokjpncehggojaaGreatEqL
import Derived.Test.YtokjpncehggojaaGreatEqH
import Derived.Test.YtokjpncehggojaaGreatEqIOB
set_option linter.unusedVariables false
set_option linter.unusedSimpArgs false
namespace Go.Proofs.YtokjpncehggojaaGreat.Flat
def D (ns : List Choice) : Diagram := ⟨0, ns, 0⟩
def Place (ns : List Choice) (a : Nat) (z : Int) : Prop := -2 ≤ z ∧ z < ns.length ∧ ∀ x, 0 ≤ z → ns[z.toNat]? = some x → (a : Int) ≤ x.atom
theorem Place.mono {ns t : List Choice} {a : Nat} {z : Int} (h : Place ns a z) : Place (ns ++ t) a z :=
  ⟨h.1, by have := h.2.1; simp -implicitDefEqProofs only [List.length_append]; omega, fun x h0 hx => h.2.2 x h0 (by have := h.2.1; rw [List.getElem?_append_left (by omega)] at hx; exact hx)⟩
theorem indexBy_at {α : Type} {p : α → Bool} : ∀ (l : List α) (k : Nat), 0 ≤ indexBy p k l → ∃ i x, indexBy p k l = ((k + i : Nat) : Int) ∧ l[i]? = some x ∧ p x = true
  | [], k, h => by simp [indexBy] at h
  | y :: r, k, h => by
    simp -implicitDefEqProofs only [indexBy] at h ⊢
    split
    · rename_i hp
      exact ⟨0, y, by simp, by simp, hp⟩
    · rename_i hp
      rw [if_neg hp] at h
      obtain ⟨i, x, h1, h2, h3⟩ := indexBy_at r (k + 1) h
      exact ⟨i + 1, x, by rw [h1]; omega, by simpa using h2, h3⟩
def numV : List Bool → Nat
  | [] => 0
  | b :: r => (if b = true then 1 else 0) + 2 * numV r
theorem numV_lt : ∀ v : List Bool, numV v < 2 ^ v.length
  | [] => by simp [numV]
  | b :: r => by
    have := numV_lt r
    simp -implicitDefEqProofs only [numV, List.length_cons, Nat.pow_succ]
    split <;> omega
theorem valsOf_num : ∀ (v : List Bool) (k : Nat), k < v.length → decide (numV v / 2 ^ k % 2 = 1) = v.getD k false
  | [], k, h => by simp at h
  | b :: r, 0, h => by
    simp -implicitDefEqProofs only [numV, Nat.pow_zero, Nat.div_one, List.getD_cons_zero]
    cases b
    · have : (0 + 2 * numV r) % 2 = 0 := by omega
      simp [this]
    · have : (1 + 2 * numV r) % 2 = 1 := by omega
      simp [this]
  | b :: r, k + 1, h => by
    have ih := valsOf_num r k (by simpa using h)
    have e : numV (b :: r) / 2 ^ (k + 1) = numV r / 2 ^ k := by
      rw [Nat.pow_succ, Nat.mul_comm, ← Nat.div_div_eq_div_mul]
      congr 1
      simp -implicitDefEqProofs only [numV]
      split <;> omega
    rw [e, ih]
    simp
theorem vals_self (v : List Bool) : valsOf v.length (numV v) = v := by
  unfold valsOf
  refine List.ext_getElem (by simp) fun k h1 h2 => ?_
  simp -implicitDefEqProofs only [List.getElem_map, List.getElem_range]
  rw [valsOf_num v k h2, List.getD_eq_getElem?_getD, List.getElem?_eq_getElem h2]
  rfl
set_option maxRecDepth 10000
def isFor (r : Rule) (a o : Int) : Bool := ((r.action == -1) || (r.action == a)) && ((r.object == -1) || (r.object == o))
theorem r_spec_IsFor {fl : Bool} (k : Nat) (hk : 281474976710656 + 1 ≤ k) (x : Rule) (a o : Int) : run E noExt k 24 [x.enc fl, .int .i64 a, .int .i64 o] [] = some (.bool (isFor x a o), []) := by
  obtain ⟨k, rfl⟩ : ∃ j, k = j + 1 := ⟨k - 1, by omega⟩
  rw [run_succ rfl rfl, body_eq (nt := 27) (fn := Go.Proofs.Tryz.f24) (by kernel_rfl) rfl rfl rfl rfl rfl rfl rfl rfl]
  simp -implicitDefEqProofs only [W1, ↓D1, ↓DC, QX, Go.Proofs.Tryz.f24, enc_Rule, Int.reduceToNat, id_eq, Int.reduceBEq, Int.reduceLE, Int.reduceLT, Nat.reduceAdd, Nat.reduceEqDiff, Nat.reduceLT, Nat.reduceLeDiff, Nat.reduceMul, Nat.reduceSub, reduceIte]
  repeat' (split <;> (rename_i h; (try simp -implicitDefEqProofs only [Bool.not_eq_true', Bool.not_eq_false', decide_eq_true_eq, decide_eq_false_iff_not] at h); (try simp -implicitDefEqProofs only [W1, ↓D1, ↓DC, QX, *, enc_Rule, Int.reduceToNat, id_eq, Int.reduceBEq, Int.reduceLE, Int.reduceLT, Nat.reduceAdd, Nat.reduceEqDiff, Nat.reduceLT, Nat.reduceLeDiff, Nat.reduceMul, Nat.reduceSub, reduceIte])))
  all_goals simp -implicitDefEqProofs only [isFor, *, Bool.true_and, Bool.false_and, Bool.and_true, Bool.and_false, Bool.or_true, Bool.true_or, Bool.false_or]
theorem r_impl_IsFor {fl : Bool} (k : Nat) (hk : 281474976710656 + 1 ≤ k) (x : Rule) (a o : Int) : run E noExt k 20 [x.enc fl, .int .i64 a, .int .i64 o] [] = some (.bool (isFor x a o), []) := by
  obtain ⟨k, rfl⟩ : ∃ j, k = j + 1 := ⟨k - 1, by omega⟩
  rw [run_succ rfl rfl, body_eq (nt := 27) (fn := Go.Proofs.Tryz.f20) (by kernel_rfl) rfl rfl rfl rfl rfl rfl rfl rfl]
  simp -implicitDefEqProofs only [W1, ↓D1, ↓DC, QX, Go.Proofs.Tryz.f20, enc_Rule, Int.reduceToNat, id_eq, Int.reduceBEq, Int.reduceLE, Int.reduceLT, Nat.reduceAdd, Nat.reduceEqDiff, Nat.reduceLT, Nat.reduceLeDiff, Nat.reduceMul, Nat.reduceSub, reduceIte]
  repeat' (split <;> (rename_i h; (try simp -implicitDefEqProofs only [Bool.not_eq_true', Bool.not_eq_false', decide_eq_true_eq, decide_eq_false_iff_not] at h); (try simp -implicitDefEqProofs only [W1, ↓D1, ↓DC, QX, *, enc_Rule, Int.reduceToNat, id_eq, Int.reduceBEq, Int.reduceLE, Int.reduceLT, Nat.reduceAdd, Nat.reduceEqDiff, Nat.reduceLT, Nat.reduceLeDiff, Nat.reduceMul, Nat.reduceSub, reduceIte])))
  all_goals simp -implicitDefEqProofs only [isFor, *, Bool.true_and, Bool.false_and, Bool.and_true, Bool.and_false, Bool.or_true, Bool.true_or, Bool.false_or]
def meet (r s : Rule) : Bool := (((r.action == s.action) || (r.action == -1)) || (s.action == -1)) && (((r.object == s.object) || (r.object == -1)) || (s.object == -1))
theorem r_impl_Meet {fl gl : Bool} (k : Nat) (hk : 281474976710656 + 1 ≤ k) (x y : Rule) : run E noExt k 22 [x.enc fl, y.enc gl] [] = some (.bool (meet x y), []) := by
  obtain ⟨k, rfl⟩ : ∃ j, k = j + 1 := ⟨k - 1, by omega⟩
  rw [run_succ rfl rfl, body_eq (nt := 37) (fn := Go.Proofs.Tryz.f22) (by kernel_rfl) rfl rfl rfl rfl rfl rfl rfl rfl]
  simp -implicitDefEqProofs only [W1, ↓D1, ↓DC, QX, Go.Proofs.Tryz.f22, enc_Rule, Int.reduceToNat, id_eq, Int.reduceBEq, Int.reduceLE, Int.reduceLT, Nat.reduceAdd, Nat.reduceEqDiff, Nat.reduceLT, Nat.reduceLeDiff, Nat.reduceMul, Nat.reduceSub, reduceIte]
  repeat' (split <;> (rename_i h; (try simp -implicitDefEqProofs only [Bool.not_eq_true', Bool.not_eq_false', decide_eq_true_eq, decide_eq_false_iff_not] at h); (try simp -implicitDefEqProofs only [W1, ↓D1, ↓DC, QX, *, enc_Rule, Int.reduceToNat, id_eq, Int.reduceBEq, Int.reduceLE, Int.reduceLT, Nat.reduceAdd, Nat.reduceEqDiff, Nat.reduceLT, Nat.reduceLeDiff, Nat.reduceMul, Nat.reduceSub, reduceIte])))
  all_goals simp -implicitDefEqProofs only [meet, *, Bool.true_and, Bool.false_and, Bool.and_true, Bool.and_false, Bool.or_true, Bool.true_or, Bool.false_or]
mutual
def Cond.eval (p : Cond → Bool) : Cond → Bool
  | ⟨o, a, b, s⟩ => if (o == 7) = true then !((Cond.evals p s).getD 0 false) else if (o == 8) = true then (Cond.evals p s).getD 0 false && (Cond.evals p s).getD 1 false
      else if (o == 9) = true then (Cond.evals p s).getD 0 false || (Cond.evals p s).getD 1 false else p ⟨o, a, b, s⟩
def Cond.evals (p : Cond → Bool) : List Cond → List Bool
  | [] => []
  | c :: r => c.eval p :: Cond.evals p r
end
theorem evals_map (p : Cond → Bool) (s : List Cond) : Cond.evals p s = s.map (Cond.eval p) := by
  induction s with
  | nil => simp [Cond.evals]
  | cons c r ih => simp [Cond.evals, ih]
theorem Cond.eval_eq (p : Cond → Bool) (c : Cond) : c.eval p = if (c.op == 7) = true then !((c.args.map (Cond.eval p)).getD 0 false) else if (c.op == 8) = true then (c.args.map (Cond.eval p)).getD 0 false && (c.args.map (Cond.eval p)).getD 1 false
      else if (c.op == 9) = true then (c.args.map (Cond.eval p)).getD 0 false || (c.args.map (Cond.eval p)).getD 1 false else p c := by
  cases c
  simp -implicitDefEqProofs only [Cond.eval, evals_map]
theorem valid_args {c : Cond} (h : c.valid = true) : (c.op = 7 → ∃ a, c.args = [a] ∧ a.valid = true) ∧ (c.op = 8 → ∃ a b, c.args = [a, b] ∧ a.valid = true ∧ b.valid = true) ∧ (c.op = 9 → ∃ a b, c.args = [a, b] ∧ a.valid = true ∧ b.valid = true) := by
  rw [c.valid_eq] at h
  simp -implicitDefEqProofs only [nodeOk, Bool.and_eq_true, beq_iff_eq, List.all_eq_true] at h
  obtain ⟨⟨⟨h1, _⟩, _⟩, h2⟩ := h
  have ar : ∀ n : Int, arity n = if (n == 7) = true then 1 else if (n == 8) = true then 2 else if (n == 9) = true then 2 else if inR n 1 6 = true then 0 else -1 := fun _ => rfl
  refine ⟨fun e => ?_, fun e => ?_, fun e => ?_⟩
  · rw [ar, e] at h1
    match hs : c.args with
    | [] => rw [hs] at h1; simp at h1
    | [a] => exact ⟨a, rfl, h2 a (by rw [hs]; simp)⟩
    | a :: b :: r => rw [hs] at h1; simp at h1; omega
  · rw [ar, e] at h1
    match hs : c.args with
    | [] => rw [hs] at h1; simp at h1
    | [a] => rw [hs] at h1; simp at h1
    | [a, b] => exact ⟨a, b, rfl, h2 a (by rw [hs]; simp), h2 b (by rw [hs]; simp)⟩
    | a :: b :: d :: r => rw [hs] at h1; simp at h1; omega
  · rw [ar, e] at h1
    match hs : c.args with
    | [] => rw [hs] at h1; simp at h1
    | [a] => rw [hs] at h1; simp at h1
    | [a, b] => exact ⟨a, b, rfl, h2 a (by rw [hs]; simp), h2 b (by rw [hs]; simp)⟩
    | a :: b :: d :: r => rw [hs] at h1; simp at h1; omega
noncomputable def leafIdx (atoms : List Cond) (x : Cond) : Int := indexBy (fun own => decide (own = x)) 0 atoms
noncomputable def leafVal (atoms : List Cond) (values : List Bool) (x : Cond) : Bool := decide (0 ≤ leafIdx atoms x) && (decide (leafIdx atoms x < values.length) && values.getD (leafIdx atoms x).toNat false)
theorem r_impl_evalWith0 {fl : Bool} (F : Nat) (caps : List AV) (hP : Plain caps) (p : Cond → Bool) (K0 : Nat) (hF : ∀ k, K0 ≤ k → ∀ c : Cond, c.w ≤ 1099511627776 → run E noExt k F ([c.enc fl] ++ caps) [] = some (.bool (p c), [])) (x : Cond) (hmdF : E.md F = [] := by rfl) :
    ∀ (k : Nat), K0 + 290271069732864 + 4 * x.w + 2 ≤ k → x.valid = true → x.w ≤ 1099511627776 → run E noExt k 52 [x.enc fl, .clo F caps] [] = some (.bool (x.eval p), []) := by
  induction x using Cond.induct with
  | h x ih =>
    intro k hk hv hx
    have c0 := hF (k - 1) (by omega) x hx
    rw [x.w_eq] at hk hx
    have c1 : ∀ c ∈ x.args, c.valid = true → run E noExt (k - 1) 52 [c.enc fl, .clo F caps] [] = some (.bool (c.eval p), []) := fun c hc hcv => ih c hc _ (by have := wl_mem (w := Cond.w) hc; omega) hcv (by have := wl_mem (w := Cond.w) hc; omega)
    clear ih
    obtain ⟨a7, a8, a9⟩ := valid_args hv
    rw [x.eval_eq]
    have hLd := hP.lend
    by_cases e7 : x.op = 7
    · have b7 : (x.op == 7) = true := by simp [e7]
      obtain ⟨a, ha, va⟩ := a7 e7
      have c2 := c1 a (by rw [ha]; simp) va
      clear c0 c1 hF
      obtain ⟨k, rfl⟩ : ∃ j, k = j + 1 := ⟨k - 1, by omega⟩
      rw [run_succ rfl rfl, body_eq (nt := 51) (fn := Go.Proofs.Tryz.f52) (by kernel_rfl) rfl rfl rfl rfl rfl rfl rfl rfl]
      simp -implicitDefEqProofs only [Nat.add_sub_cancel, enc_Cond] at c2
      simp -implicitDefEqProofs only [W1, ↓D1, ↓DC, QX, Go.Proofs.Tryz.f52, hmdF, enc_Cond, b7, ha, c2, hLd, List.getD_cons_zero, Int.reduceToNat, id_eq, Int.reduceBEq, Int.reduceLE, Int.reduceLT, Nat.reduceAdd, Nat.reduceEqDiff, Nat.reduceLT, Nat.reduceLeDiff, Nat.reduceMul, Nat.reduceSub, reduceIte]
      repeat' (split <;> (rename_i h; (try simp -implicitDefEqProofs only [Bool.not_eq_true', Bool.not_eq_false', decide_eq_true_eq, decide_eq_false_iff_not] at h); (try simp -implicitDefEqProofs only [W1, ↓D1, ↓DC, QX, *, hmdF, enc_Cond, b7, ha, c2, hLd, List.getD_cons_zero, Int.reduceToNat, id_eq, Int.reduceBEq, Int.reduceLE, Int.reduceLT, Nat.reduceAdd, Nat.reduceEqDiff, Nat.reduceLT, Nat.reduceLeDiff, Nat.reduceMul, Nat.reduceSub, reduceIte])))
    · have b7 : (x.op == 7) = false := by simp [e7]
      by_cases e8 : x.op = 8
      · have b8 : (x.op == 8) = true := by simp [e8]
        obtain ⟨a, b, ha, va, vb⟩ := a8 e8
        have c2 := c1 a (by rw [ha]; simp) va
        have c3 := c1 b (by rw [ha]; simp) vb
        clear c0 c1 hF
        obtain ⟨k, rfl⟩ : ∃ j, k = j + 1 := ⟨k - 1, by omega⟩
        rw [run_succ rfl rfl, body_eq (nt := 51) (fn := Go.Proofs.Tryz.f52) (by kernel_rfl) rfl rfl rfl rfl rfl rfl rfl rfl]
        simp -implicitDefEqProofs only [Nat.add_sub_cancel, enc_Cond] at c2 c3
        simp -implicitDefEqProofs only [W1, ↓D1, ↓DC, QX, Go.Proofs.Tryz.f52, hmdF, enc_Cond, b7, b8, ha, c2, c3, hLd, List.getD_cons_zero, List.getD_cons_succ, Int.reduceToNat, id_eq, Int.reduceBEq, Int.reduceLE, Int.reduceLT, Nat.reduceAdd, Nat.reduceEqDiff, Nat.reduceLT, Nat.reduceLeDiff, Nat.reduceMul, Nat.reduceSub, reduceIte]
        repeat' (split <;> (rename_i h; (try simp -implicitDefEqProofs only [Bool.not_eq_true', Bool.not_eq_false', decide_eq_true_eq, decide_eq_false_iff_not] at h); (try simp -implicitDefEqProofs only [W1, ↓D1, ↓DC, QX, *, hmdF, enc_Cond, b7, b8, ha, c2, c3, hLd, List.getD_cons_zero, List.getD_cons_succ, Int.reduceToNat, id_eq, Int.reduceBEq, Int.reduceLE, Int.reduceLT, Nat.reduceAdd, Nat.reduceEqDiff, Nat.reduceLT, Nat.reduceLeDiff, Nat.reduceMul, Nat.reduceSub, reduceIte])))
      · have b8 : (x.op == 8) = false := by simp [e8]
        by_cases e9 : x.op = 9
        · have b9 : (x.op == 9) = true := by simp [e9]
          obtain ⟨a, b, ha, va, vb⟩ := a9 e9
          have c2 := c1 a (by rw [ha]; simp) va
          have c3 := c1 b (by rw [ha]; simp) vb
          clear c0 c1 hF
          obtain ⟨k, rfl⟩ : ∃ j, k = j + 1 := ⟨k - 1, by omega⟩
          rw [run_succ rfl rfl, body_eq (nt := 51) (fn := Go.Proofs.Tryz.f52) (by kernel_rfl) rfl rfl rfl rfl rfl rfl rfl rfl]
          simp -implicitDefEqProofs only [Nat.add_sub_cancel, enc_Cond] at c2 c3
          simp -implicitDefEqProofs only [W1, ↓D1, ↓DC, QX, Go.Proofs.Tryz.f52, hmdF, enc_Cond, b7, b8, b9, ha, c2, c3, hLd, List.getD_cons_zero, List.getD_cons_succ, Int.reduceToNat, id_eq, Int.reduceBEq, Int.reduceLE, Int.reduceLT, Nat.reduceAdd, Nat.reduceEqDiff, Nat.reduceLT, Nat.reduceLeDiff, Nat.reduceMul, Nat.reduceSub, reduceIte]
          repeat' (split <;> (rename_i h; (try simp -implicitDefEqProofs only [Bool.not_eq_true', Bool.not_eq_false', decide_eq_true_eq, decide_eq_false_iff_not] at h); (try simp -implicitDefEqProofs only [W1, ↓D1, ↓DC, QX, *, hmdF, enc_Cond, b7, b8, b9, ha, c2, c3, hLd, List.getD_cons_zero, List.getD_cons_succ, Int.reduceToNat, id_eq, Int.reduceBEq, Int.reduceLE, Int.reduceLT, Nat.reduceAdd, Nat.reduceEqDiff, Nat.reduceLT, Nat.reduceLeDiff, Nat.reduceMul, Nat.reduceSub, reduceIte])))
        · have b9 : (x.op == 9) = false := by simp [e9]
          clear c1 hF
          obtain ⟨k, rfl⟩ : ∃ j, k = j + 1 := ⟨k - 1, by omega⟩
          rw [run_succ rfl rfl, body_eq (nt := 51) (fn := Go.Proofs.Tryz.f52) (by kernel_rfl) rfl rfl rfl rfl rfl rfl rfl rfl]
          simp -implicitDefEqProofs only [Nat.add_sub_cancel, enc_Cond, List.cons_append, List.nil_append] at c0
          simp -implicitDefEqProofs only [W1, ↓D1, ↓DC, QX, Go.Proofs.Tryz.f52, hmdF, enc_Cond, b7, b8, b9, c0, hLd, Int.reduceToNat, id_eq, Int.reduceBEq, Int.reduceLE, Int.reduceLT, Nat.reduceAdd, Nat.reduceEqDiff, Nat.reduceLT, Nat.reduceLeDiff, Nat.reduceMul, Nat.reduceSub, reduceIte]
          repeat' (split <;> (rename_i h; (try simp -implicitDefEqProofs only [Bool.not_eq_true', Bool.not_eq_false', decide_eq_true_eq, decide_eq_false_iff_not] at h); (try simp -implicitDefEqProofs only [W1, ↓D1, ↓DC, QX, *, hmdF, enc_Cond, b7, b8, b9, c0, hLd, Int.reduceToNat, id_eq, Int.reduceBEq, Int.reduceLE, Int.reduceLT, Nat.reduceAdd, Nat.reduceEqDiff, Nat.reduceLT, Nat.reduceLeDiff, Nat.reduceMul, Nat.reduceSub, reduceIte])))
theorem r_impl_EvalBy1 {fl f2 f3 : Bool} (k : Nat) (hk : 290271069732864 + 6 ≤ k) (s : List Cond) (v : List Bool) (hs0 : wl Cond.w s ≤ 1099511627776) (x : Cond) (hx : x.w ≤ 1099511627776) :
    run E noExt k 87 [x.enc fl, .cptr [.sl f2 (s.map (Cond.enc f2))], .cptr [.sl f3 (v.map AV.bool)]] [] = some (.bool ((x.op == 1) || leafVal s v x), []) := by
  have hs1 := Nat.le_trans (wl_length _ s) hs0
  have c1 := r_slices_IndexFunc_Cond (fl := f2) (k - 1) s (by omega) (by omega) 89 [.cptr [.int .i64 x.op, .int .i64 x.a, .int .i64 x.b, .sl fl (x.args.map (Cond.enc fl))]] (plain_of rfl) (fun own => decide (own = x)) (fun c hc => by
    have c0 := r_impl_EqualConds (fl := f2) (gl := fl) (k - 3) (by omega) c x (by have := wl_mem (w := Cond.w) hc; omega)
    rw [show k - 1 - 1 = (k - 3) + 1 by omega]
    rw [run_succ rfl rfl, body_eq (nt := 7) (fn := Go.Proofs.Tryz.f89) (by kernel_rfl) rfl rfl rfl rfl rfl rfl rfl rfl]
    simp -implicitDefEqProofs only [enc_Cond] at c0
    simp -implicitDefEqProofs only [W1, ↓D1, ↓DC, enc_Cond, Go.Proofs.Tryz.f89, c0, Int.reduceToNat, id_eq, Int.reduceBEq, Int.reduceLE, Int.reduceLT, Nat.reduceAdd, Nat.reduceEqDiff, Nat.reduceLT, Nat.reduceLeDiff, Nat.reduceMul, Nat.reduceSub, reduceIte])
  obtain ⟨k, rfl⟩ : ∃ j, k = j + 1 := ⟨k - 1, by omega⟩
  rw [run_succ rfl rfl, body_eq (nt := 28) (fn := Go.Proofs.Tryz.f87) (by kernel_rfl) rfl rfl rfl rfl rfl rfl rfl rfl]
  simp -implicitDefEqProofs only [Nat.add_sub_cancel] at c1
  unfold leafVal leafIdx
  generalize indexBy (fun own => decide (own = x)) 0 s = i at c1 ⊢
  by_cases hv : 0 ≤ i ∧ i < (v.length : Nat)
  · have hvx : v[i.toNat]? = some (v.getD i.toNat false) := by
      rw [List.getD_eq_getElem?_getD, List.getElem?_eq_getElem (by omega)]; rfl
    have h1 := hv.1
    have h2 := hv.2
    simp -implicitDefEqProofs only [W1, ↓D1, ↓DC, QX, Go.Proofs.Tryz.f87, enc_Cond, c1, hvx, h1, h2, Int.reduceToNat, id_eq, Int.reduceBEq, Int.reduceLE, Int.reduceLT, Nat.reduceAdd, Nat.reduceEqDiff, Nat.reduceLT, Nat.reduceLeDiff, Nat.reduceMul, Nat.reduceSub, reduceIte]
    repeat' (split <;> (rename_i h; (try simp -implicitDefEqProofs only [Bool.not_eq_true', Bool.not_eq_false', decide_eq_true_eq, decide_eq_false_iff_not] at h); (try simp -implicitDefEqProofs only [W1, ↓D1, ↓DC, QX, *, enc_Cond, c1, hvx, h1, h2, Int.reduceToNat, id_eq, Int.reduceBEq, Int.reduceLE, Int.reduceLT, Nat.reduceAdd, Nat.reduceEqDiff, Nat.reduceLT, Nat.reduceLeDiff, Nat.reduceMul, Nat.reduceSub, reduceIte])))
  ·
    simp -implicitDefEqProofs only [W1, ↓D1, ↓DC, QX, Go.Proofs.Tryz.f87, enc_Cond, c1, Int.reduceToNat, id_eq, Int.reduceBEq, Int.reduceLE, Int.reduceLT, Nat.reduceAdd, Nat.reduceEqDiff, Nat.reduceLT, Nat.reduceLeDiff, Nat.reduceMul, Nat.reduceSub, reduceIte]
    repeat' (split <;> (rename_i h; (try simp -implicitDefEqProofs only [Bool.not_eq_true', Bool.not_eq_false', decide_eq_true_eq, decide_eq_false_iff_not] at h); (try simp -implicitDefEqProofs only [W1, ↓D1, ↓DC, QX, *, enc_Cond, c1, Int.reduceToNat, id_eq, Int.reduceBEq, Int.reduceLE, Int.reduceLT, Nat.reduceAdd, Nat.reduceEqDiff, Nat.reduceLT, Nat.reduceLeDiff, Nat.reduceMul, Nat.reduceSub, reduceIte])))
    all_goals first | done | (exfalso; omega) | skip
theorem r_impl_EvalBy {fl f2 f3 : Bool} (k : Nat) (hk : 884940186000000 + 7 ≤ k) (x : Cond) (s : List Cond) (v : List Bool) (hx : x.w ≤ 1099511627776) (hs0 : wl Cond.w s ≤ 1099511627776) :
    run E noExt k 56 [x.enc fl, .sl f2 (s.map (Cond.enc f2)), .sl f3 (v.map AV.bool)] [] = some (.bool (isCond x && x.eval fun c => (c.op == 1) || leafVal s v c), []) := by
  have c1 := r_impl_IsCond (fl := fl) (k - 1) (by omega) x hx
  have c2 := r_impl_evalWith0 (fl := fl) 87 [.cptr [.sl f2 (s.map (Cond.enc f2))], .cptr [.sl f3 (v.map AV.bool)]] (plain_of rfl) (fun c => (c.op == 1) || leafVal s v c) (290271069732864 + 6) (fun k hk c hc => r_impl_EvalBy1 k hk s v hs0 c hc) x rfl (k - 1) (by omega)
  obtain ⟨k, rfl⟩ : ∃ j, k = j + 1 := ⟨k - 1, by omega⟩
  rw [run_succ rfl rfl, body_eq (nt := 14) (fn := Go.Proofs.Tryz.f56) (by kernel_rfl) rfl rfl rfl rfl rfl rfl rfl rfl]
  simp -implicitDefEqProofs only [Nat.add_sub_cancel, enc_Cond] at c1 c2
  cases h : isCond x
  · simp -implicitDefEqProofs only [h] at c1
    simp -implicitDefEqProofs only [W1, ↓D1, ↓DC, QX, Go.Proofs.Tryz.f56, enc_Cond, c1, Int.reduceToNat, id_eq, Int.reduceBEq, Int.reduceLE, Int.reduceLT, Nat.reduceAdd, Nat.reduceEqDiff, Nat.reduceLT, Nat.reduceLeDiff, Nat.reduceMul, Nat.reduceSub, reduceIte]
    repeat' (split <;> (rename_i h; (try simp -implicitDefEqProofs only [Bool.not_eq_true', Bool.not_eq_false', decide_eq_true_eq, decide_eq_false_iff_not] at h); (try simp -implicitDefEqProofs only [W1, ↓D1, ↓DC, QX, *, enc_Cond, c1, Int.reduceToNat, id_eq, Int.reduceBEq, Int.reduceLE, Int.reduceLT, Nat.reduceAdd, Nat.reduceEqDiff, Nat.reduceLT, Nat.reduceLeDiff, Nat.reduceMul, Nat.reduceSub, reduceIte])))
  · have hv : x.valid = true := by
      unfold isCond at h
      simp -implicitDefEqProofs only [Bool.and_eq_true] at h
      exact h.2
    have c3 := c2 hv hx
    simp -implicitDefEqProofs only [h] at c1
    simp -implicitDefEqProofs only [W1, ↓D1, ↓DC, QX, Go.Proofs.Tryz.f56, enc_Cond, c1, c3, Int.reduceToNat, id_eq, Int.reduceBEq, Int.reduceLE, Int.reduceLT, Nat.reduceAdd, Nat.reduceEqDiff, Nat.reduceLT, Nat.reduceLeDiff, Nat.reduceMul, Nat.reduceSub, reduceIte]
    repeat' (split <;> (rename_i h; (try simp -implicitDefEqProofs only [Bool.not_eq_true', Bool.not_eq_false', decide_eq_true_eq, decide_eq_false_iff_not] at h); (try simp -implicitDefEqProofs only [W1, ↓D1, ↓DC, QX, *, enc_Cond, c1, c3, Int.reduceToNat, id_eq, Int.reduceBEq, Int.reduceLE, Int.reduceLT, Nat.reduceAdd, Nat.reduceEqDiff, Nat.reduceLT, Nat.reduceLeDiff, Nat.reduceMul, Nat.reduceSub, reduceIte])))
theorem evCall_rg {Φ : Phi} {nid n : Nat} {x y : AV} {dst : Option Nat} {st : St} : evCall Φ [.ro, .give] nid n [x, y] [] dst st = evGive Φ nid n [(.ro, x), (.give, y)] dst st := rfl
theorem finish_rg {P : Program} {rs : List ResultVar} {st : St} : finish P [.ro, .give] rs 0 st = finish P [] rs 0 st := rfl
noncomputable def addLeaf (x : Cond) (out : List Cond) : List Cond := if (inR x.op 2 6 && ((x.args.length : Int) == 0) && !(out.any fun own => decide (own = x))) = true then out ++ [x] else out
mutual
noncomputable def gather : Cond → List Cond → List Cond
  | ⟨o, a, b, s⟩, out => gathers s (addLeaf ⟨o, a, b, s⟩ out)
noncomputable def gathers : List Cond → List Cond → List Cond
  | [], out => out
  | c :: r, out => gathers r (gather c out)
end
theorem gather_eq (x : Cond) (out : List Cond) : gather x out = gathers x.args (addLeaf x out) := by
  cases x
  simp -implicitDefEqProofs only [gather]
def Leaves (l : List Cond) : Prop := ∀ c ∈ l, c.args = []
theorem addLeaf_leaves {x : Cond} {out : List Cond} (h : Leaves out) : Leaves (addLeaf x out) := by
  unfold addLeaf
  split
  · rename_i h2
    simp -implicitDefEqProofs only [Bool.and_eq_true, beq_iff_eq] at h2
    intro c hc
    rcases List.mem_append.1 hc with hc | hc
    · exact h c hc
    · rw [List.mem_singleton] at hc
      subst hc
      exact List.length_eq_zero_iff.1 (by have := h2.1.2; omega)
  · exact h
theorem addLeaf_len (x : Cond) (out : List Cond) : (addLeaf x out).length ≤ out.length + 1 := by
  unfold addLeaf
  split
  · simp
  · omega
theorem gather_facts (x : Cond) : ∀ out, (Leaves out → Leaves (gather x out)) ∧ (gather x out).length ≤ out.length + (x.w + 1) := by
  induction x using Cond.induct with
  | h x ih =>
    intro out
    have h : ∀ (s : List Cond), (∀ d ∈ s, d ∈ x.args) → ∀ out, (Leaves out → Leaves (gathers s out)) ∧ (gathers s out).length ≤ out.length + wl Cond.w s := by
      intro s
      induction s with
      | nil => intro _ out; exact ⟨fun h => h, by simp [gathers, wl]⟩
      | cons c r ihr =>
        intro hs out
        have h1 := ih c (hs c (by simp)) out
        have h2 := ihr (fun d hd => hs d (by simp [hd])) (gather c out)
        refine ⟨fun h => h2.1 (h1.1 h), ?_⟩
        simp -implicitDefEqProofs only [gathers, wl]
        omega
    have h3 := h x.args (fun d hd => hd) (addLeaf x out)
    have h4 := addLeaf_len x out
    rw [gather_eq, x.w_eq]
    exact ⟨fun h => h3.1 (addLeaf_leaves h), by omega⟩
theorem gathers_facts : ∀ (s : List Cond) (out : List Cond), (Leaves out → Leaves (gathers s out)) ∧ (gathers s out).length ≤ out.length + wl Cond.w s
  | [], out => ⟨fun h => h, by simp [gathers, wl]⟩
  | c :: r, out => by
    have h1 := gather_facts c out
    have h2 := gathers_facts r (gather c out)
    refine ⟨fun h => h2.1 (h1.1 h), ?_⟩
    simp -implicitDefEqProofs only [gathers, wl]
    omega
theorem scals_leaves : ∀ {l : List Cond}, Leaves l → AV.scals (l.map (Cond.enc true)) = true
  | [], _ => rfl
  | c :: r, h => by
    have h1 : c.args = [] := h c (by simp)
    simp -implicitDefEqProofs only [List.map_cons, AV.scals, enc_Cond, h1, List.map_nil, AV.scal, Bool.true_and, scals_leaves fun d hd => h d (List.mem_cons_of_mem _ hd)]
theorem wl_leaves : ∀ {l : List Cond}, Leaves l → wl Cond.w l = l.length
  | [], _ => rfl
  | c :: r, h => by
    have h1 : c.args = [] := h c (by simp)
    have h2 : c.w = 0 := by rw [c.w_eq, h1]; rfl
    simp -implicitDefEqProofs only [wl, List.length_cons, h2, wl_leaves fun d hd => h d (List.mem_cons_of_mem _ hd)]
    omega
def gStep (f : Cond → List Cond → List Cond) (_ : Nat) (c : Cond) (b : List Cond) : Sum (List Cond) (List Cond) := .inr (f c b)
theorem gLoop : ∀ (s : List Cond) (i : Nat) (b : List Cond), loopL (gStep gather) id i s b = gathers s b
  | [], i, b => rfl
  | c :: r, i, b => by
    simp -implicitDefEqProofs only [loopL, gStep, gathers]
    exact gLoop r _ _
theorem leaf_nil {x : Cond} (h : ((x.args.length : Int) == 0) = true) : x.args = [] := List.length_eq_zero_iff.1 (by rw [beq_iff_eq] at h; omega)
theorem r_impl_copyLeaf {fl : Bool} (k : Nat) (hk : 281474976710656 + 1 ≤ k) (x : Cond) (hx : x.args = []) : run E noExt k 70 [x.enc fl] [] = some (.agg [.int .i64 x.op, .int .i64 x.a, .int .i64 x.b, .nils], []) := by
  obtain ⟨k, rfl⟩ : ∃ j, k = j + 1 := ⟨k - 1, by omega⟩
  rw [run_succ rfl rfl, body_eq (nt := 29) (fn := Go.Proofs.Tryz.f70) (by kernel_rfl) rfl rfl rfl rfl rfl rfl rfl rfl]
  simp -implicitDefEqProofs only [W4, ↓D4, ↓DA, ↓DP, ↓DC, enc_Cond, hx, Go.Proofs.Tryz.f70, SH, dedup, nodupB, idx, AV.rows, AV.rowss, AV.mapO, AV.mapOs, Int.reduceToNat, id_eq, Int.reduceBEq, Int.reduceLE, Int.reduceLT, Nat.reduceAdd, Nat.reduceEqDiff, Nat.reduceLT, Nat.reduceLeDiff, Nat.reduceMul, Nat.reduceSub, reduceIte]
  rw [ev_loop]
  refine Eq.trans (loop_list (Q := fun (_ : Unit) z => thenEnd E.P [] _ 0 (thenEv E _ _ _ _ _ (outOf 0 z)) = some (.agg [.int .i64 x.op, .int .i64 x.a, .int .i64 x.b, .nils], [])) ([] : List Unit) (fun _ _ _ => .inr ()) id
    (fun i _ => { sl := [(2, .ptr 0 0), (3, .ptr 1 0), (14, .sl fl []), (15, .int .i64 0), (16, .int .i64 (i : Nat))], bx := [(0, [.int .i64 0, .int .i64 0, .int .i64 0, .nils]), (1, [.int .i64 x.op, .int .i64 x.a, .int .i64 x.b, .nils])], nx := 2, nt := 29, tree := E.tree 70 }) (fun _ _ => True) () ?_ ?_ (by simp; omega) trivial ?_) rfl
  · intro _ _
    simp -implicitDefEqProofs only [W3, ↓D3, ↓DA, ↓DP, ↓DC, QX, SH, leaf_some, isNormal, Int.reduceToNat, id_eq, Int.reduceBEq, Int.reduceLE, Int.reduceLT, Nat.reduceAdd, Nat.reduceEqDiff, Nat.reduceLT, Nat.reduceLeDiff, Nat.reduceMul, Nat.reduceSub, reduceIte]
    repeat' (split <;> (rename_i h; (try simp -implicitDefEqProofs only [Bool.not_eq_true', Bool.not_eq_false', decide_eq_true_eq, decide_eq_false_iff_not] at h); (try simp -implicitDefEqProofs only [W3, ↓D3, ↓DA, ↓DP, ↓DC, QX, *, SH, leaf_some, isNormal, Int.reduceToNat, id_eq, Int.reduceBEq, Int.reduceLE, Int.reduceLT, Nat.reduceAdd, Nat.reduceEqDiff, Nat.reduceLT, Nat.reduceLeDiff, Nat.reduceMul, Nat.reduceSub, reduceIte])))
  · intro pre c r _ hs' _
    simp at hs'
  · simp -implicitDefEqProofs only [firstRegion]
    rw [keep_70_3]
    simp -implicitDefEqProofs only [W3, ↓D3, ↓DA, ↓DP, ↓DC, Int.reduceToNat, id_eq, Int.reduceBEq, Int.reduceLE, Int.reduceLT, SH, Nat.reduceAdd, Nat.reduceEqDiff, Nat.reduceLT, Nat.reduceLeDiff, Nat.reduceMul, Nat.reduceSub, reduceIte]
theorem r_impl_gathered0 {fl : Bool} (x : Cond) : ∀ k, 290271069732864 + 4 * x.w + 20 ≤ k → x.w ≤ 1099511627776 → ∀ out, Leaves out → out.length + x.w ≤ 2199023255552 →
    run E noExt k 42 [x.enc fl, .own 0 false 40 4 (out.map (Cond.enc true))] [] = some (.own 0 false 40 4 ((gather x out).map (Cond.enc true)), []) := by
  induction x using Cond.induct with
  | h x ih =>
    intro k hk hx out ho hlen
    have hfa := gathers_facts x.args
    have hal := addLeaf_len x out
    have hav := addLeaf_leaves (x := x) ho
    rw [x.w_eq] at hk hx hlen
    have hs1 := wl_length Cond.w x.args
    have hs : x.args.length ≤ 140737488355328 := by omega
    have cc := fun c hc => ih c hc (k - 1) (by have := wl_mem (w := Cond.w) hc; omega) (by have := wl_mem (w := Cond.w) hc; omega)
    have c1 := r_impl_InRange (k - 1) (by omega) x.op 2 6
    have c2 := r_slices_ContainsFunc_Cond (fl := true) (k - 1) out (by omega) (by omega) 75 [.cptr [.int .i64 x.op, .int .i64 x.a, .int .i64 x.b, .sl fl (x.args.map (Cond.enc fl))]] (plain_of rfl) (fun own => decide (own = x)) (fun c hc => by
      have c0 := r_impl_EqualConds (fl := true) (gl := fl) (k - 4) (by omega) c x (by rw [c.w_eq, ho c hc]; simp [wl])
      rw [show k - 1 - 2 = (k - 4) + 1 by omega]
      rw [run_succ rfl rfl, body_eq (nt := 7) (fn := Go.Proofs.Tryz.f75) (by kernel_rfl) rfl rfl rfl rfl rfl rfl rfl rfl]
      simp -implicitDefEqProofs only [enc_Cond] at c0
      simp -implicitDefEqProofs only [W1, ↓D1, ↓DC, enc_Cond, Go.Proofs.Tryz.f75, c0, Int.reduceToNat, id_eq, Int.reduceBEq, Int.reduceLE, Int.reduceLT, Nat.reduceAdd, Nat.reduceEqDiff, Nat.reduceLT, Nat.reduceLeDiff, Nat.reduceMul, Nat.reduceSub, reduceIte])
    have c3 := fun h => r_impl_copyLeaf (fl := fl) (k - 1) (by omega) x (leaf_nil h)
    have hm1 : (out.length + 1) * 48 ≤ 140737488355328 := by omega
    have hm2 : out.length + 1 ≤ 9223372036854775807 := by omega
    have hpl : plains [(AV.agg [.int .i64 x.op, .int .i64 x.a, .int .i64 x.b, .sl true []])] = true := rfl
    have hsc := scals_leaves ho
    rw [gather_eq]
    obtain ⟨k, rfl⟩ : ∃ j, k = j + 1 := ⟨k - 1, by omega⟩
    rw [run_succ rfl rfl, body_eq (nt := 39) (fn := Go.Proofs.Tryz.f42) (by kernel_rfl) rfl rfl rfl rfl rfl rfl rfl rfl]
    simp -implicitDefEqProofs only [Nat.add_sub_cancel, enc_Cond] at c1 c2 c3 cc
    clear ih
    have hA : (addLeaf x out).map (Cond.enc true) = if (inR x.op 2 6 && ((x.args.length : Int) == 0) && !(out.any fun own => decide (own = x))) = true then out.map (Cond.enc true) ++ [.agg [.int .i64 x.op, .int .i64 x.a, .int .i64 x.b, .sl true []]] else out.map (Cond.enc true) := by
      unfold addLeaf
      split
      · rename_i h
        simp -implicitDefEqProofs only [Bool.and_eq_true] at h
        have hL := leaf_nil h.1.2
        rw [List.map_append, List.map_cons, List.map_nil, enc_Cond, hL]
        rfl
      · rfl
    generalize addLeaf x out = b0 at *
    generalize out.any (fun own => decide (own = x)) = an at *
    generalize inR x.op 2 6 = io at *
    generalize hLL : ((x.args.length : Int) == 0) = L0 at *
    have hwd := fun i => (wl_append Cond.w (x.args.take i) (x.args.drop i)).symm
    simp -implicitDefEqProofs only [List.take_append_drop] at hwd
    cases io <;> cases L0 <;> cases an
    all_goals
      simp -implicitDefEqProofs only [Bool.and_self, Bool.and_true, Bool.and_false, Bool.not_true, Bool.not_false, Bool.false_and, Bool.true_and, Bool.false_eq_true, if_false, if_true] at hA
      simp -implicitDefEqProofs only [W4, ↓D4, ↓DA, ↓DP, ↓DC, Go.Proofs.Tryz.f42, enc_Cond, hLL, c1, c2, c3, hm1, hm2, hpl, hsc, not_false_eq_true, ifEv_bool, gate_bool, pick_bool, if_false, if_true, SH, dedup, nodupB, idx, AV.rows, AV.rowss, AV.mapO, AV.mapOs, Int.reduceToNat, id_eq, Int.reduceBEq, Int.reduceLE, Int.reduceLT, Nat.reduceAdd, Nat.reduceEqDiff, Nat.reduceLT, Nat.reduceLeDiff, Nat.reduceMul, Nat.reduceSub, reduceIte]
      rw [ev_loop]
      refine Eq.trans (loop_list (Q := fun (g : List Cond) z => thenEnd E.P _ _ 0 (thenEv E _ _ _ _ _ (outOf 0 z)) = some (.own 0 false 40 4 (g.map (Cond.enc true)), [])) x.args (gStep gather) id
        (fun i b => { sl := [(1, .own 0 false 40 4 (b.map (Cond.enc true))), (28, .sl fl (x.args.map (Cond.enc fl))), (29, .int .i64 (x.args.length : Nat)), (30, .int .i64 (i : Nat))], bx := [], nx := 1, nt := 39 })
        (fun i b => Leaves b ∧ b.length + wl Cond.w (x.args.drop i) ≤ out.length + 1 + wl Cond.w x.args) b0 ?_ ?_ (by omega) ⟨hav, by rw [List.drop_zero]; omega⟩ ?_) ?_
      · intro b _
        simp -implicitDefEqProofs only [W3, ↓D3, ↓DA, ↓DP, ↓DC, QX, finish_rg, SH, leaf_some, isNormal, Int.reduceToNat, id_eq, Int.reduceBEq, Int.reduceLE, Int.reduceLT, Nat.reduceAdd, Nat.reduceEqDiff, Nat.reduceLT, Nat.reduceLeDiff, Nat.reduceMul, Nat.reduceSub, reduceIte]
        repeat' (split <;> (rename_i h; (try simp -implicitDefEqProofs only [Bool.not_eq_true', Bool.not_eq_false', decide_eq_true_eq, decide_eq_false_iff_not] at h); (try simp -implicitDefEqProofs only [W3, ↓D3, ↓DA, ↓DP, ↓DC, QX, *, finish_rg, SH, leaf_some, isNormal, Int.reduceToNat, id_eq, Int.reduceBEq, Int.reduceLE, Int.reduceLT, Nat.reduceAdd, Nat.reduceEqDiff, Nat.reduceLT, Nat.reduceLeDiff, Nat.reduceMul, Nat.reduceSub, reduceIte])))
      · intro pre c r b hs' ⟨hb1, hb2⟩
        have hx := (at_row hs' hs).1; have hc := (at_row hs' hs).2.1; have hlt := (at_row hs' hs).2.2.1; have hw1 := (at_row hs' hs).2.2.2.1; have hl9 := (at_row hs' hs).2.2.2.2
        have hd : x.args.drop pre.length = c :: r := by rw [hs']; simp
        have hd1 : x.args.drop (pre.length + 1) = r := by rw [hs']; simp
        have hg1 := gather_facts c b
        rw [hd] at hb2
        simp -implicitDefEqProofs only [wl] at hb2
        have c4 := cc c hc b hb1 (by omega)
        have hI : Leaves (gather c b) ∧ (gather c b).length + wl Cond.w (x.args.drop (pre.length + 1)) ≤ out.length + 1 + wl Cond.w x.args := by
          rw [hd1]
          exact ⟨hg1.1 hb1, by have := hg1.2; omega⟩
        clear hs' hd hd1
        have hs1 := scals_leaves hb1
        have hs2 := scals_leaves hI.1
        simp -implicitDefEqProofs only [W3, ↓D3, ↓DA, ↓DP, ↓DC, QX, enc_Cond, hx, hlt, hw1, c4, hs1, hs2, gStep, evCall_rg, look_cons, reduceCtorEq, evCall_mutOwn, evCall_mutAgg, evGive, giveRows, ioBoxes, mutArgs, roArgs, handArg, mutSlots, isPtrB, pairs, pairss, back_nil, back_cons, backO, backE, setBoxes, importB, mode_mut, mode_give, mode_io, mode_ro, List.zip_cons_cons, List.zip_nil_left, List.zip_nil_right, ite_self, ite_true, ite_false, finish_give, finish_mut1, finish_io0, finish_io1, finish_io2, finish_io3, finish_ioc, finI, finC, finW_ptr, SH, keep_42_4, leaf_some, isNormal, Int.reduceToNat, id_eq, Int.reduceBEq, Int.reduceLE, Int.reduceLT, Nat.reduceAdd, Nat.reduceEqDiff, Nat.reduceLT, Nat.reduceLeDiff, Nat.reduceMul, Nat.reduceSub, reduceIte]
        repeat' (split <;> (rename_i h; (try simp -implicitDefEqProofs only [Bool.not_eq_true', Bool.not_eq_false', decide_eq_true_eq, decide_eq_false_iff_not] at h); (try simp -implicitDefEqProofs only [W3, ↓D3, ↓DA, ↓DP, ↓DC, QX, *, enc_Cond, hx, hlt, hw1, c4, hs1, hs2, gStep, evCall_rg, look_cons, reduceCtorEq, evCall_mutOwn, evCall_mutAgg, evGive, giveRows, ioBoxes, mutArgs, roArgs, handArg, mutSlots, isPtrB, pairs, pairss, back_nil, back_cons, backO, backE, setBoxes, importB, mode_mut, mode_give, mode_io, mode_ro, List.zip_cons_cons, List.zip_nil_left, List.zip_nil_right, ite_self, ite_true, ite_false, finish_give, finish_mut1, finish_io0, finish_io1, finish_io2, finish_io3, finish_ioc, finI, finC, finW_ptr, SH, keep_42_4, leaf_some, isNormal, Int.reduceToNat, id_eq, Int.reduceBEq, Int.reduceLE, Int.reduceLT, Nat.reduceAdd, Nat.reduceEqDiff, Nat.reduceLT, Nat.reduceLeDiff, Nat.reduceMul, Nat.reduceSub, reduceIte])))
        exact hI
      · simp -implicitDefEqProofs only [firstRegion]
        rw [keep_42_4]
        simp -implicitDefEqProofs only [W3, ↓D3, ↓DA, ↓DP, ↓DC, hA, Int.reduceToNat, id_eq, Int.reduceBEq, Int.reduceLE, Int.reduceLT, SH, Nat.reduceAdd, Nat.reduceEqDiff, Nat.reduceLT, Nat.reduceLeDiff, Nat.reduceMul, Nat.reduceSub, reduceIte]
      · rw [gLoop]
def anyStepG {α : Type} (p : α → Bool) (_ : Nat) (c : α) (_ : Unit) : Sum Bool Unit := if p c = true then .inl true else .inr ()
theorem anyLoopG {α : Type} (p : α → Bool) : ∀ (l : List α) (i : Nat), loopL (anyStepG p) (fun _ => false) i l () = l.any p
  | [], i => rfl
  | c :: r, i => by
    simp -implicitDefEqProofs only [loopL, anyStepG, List.any_cons]
    cases h : p c
    · simpa using anyLoopG p r (i + 1)
    · rfl
theorem r_impl_LeavesOf {fl : Bool} (k : Nat) (x : Cond) (hk : 290271069732864 + 4 * x.w + 21 ≤ k) (hx : x.w ≤ 1099511627776) :
    run E noExt k 55 [x.enc fl] [] = some (.own 0 false 40 4 ((gather x []).map (Cond.enc true)), []) := by
  have c1 := r_impl_gathered0 (fl := fl) x (k - 1) (by omega) hx [] (fun _ h => by simp at h) (by simp -implicitDefEqProofs only [List.length_nil]; omega)
  have hsc := scals_leaves ((gather_facts x []).1 (fun _ h => by simp at h))
  obtain ⟨k, rfl⟩ : ∃ j, k = j + 1 := ⟨k - 1, by omega⟩
  rw [run_succ rfl rfl, body_eq (nt := 6) (fn := Go.Proofs.Tryz.f55) (by kernel_rfl) rfl rfl rfl rfl rfl rfl rfl rfl]
  simp -implicitDefEqProofs only [Nat.add_sub_cancel, enc_Cond, List.map_nil] at c1
  simp -implicitDefEqProofs only [W3, ↓D3, ↓DA, ↓DP, ↓DC, Go.Proofs.Tryz.f55, enc_Cond, c1, hsc, evCall_rg, look_cons, reduceCtorEq, evCall_mutOwn, evCall_mutAgg, evGive, giveRows, ioBoxes, mutArgs, roArgs, handArg, mutSlots, isPtrB, pairs, pairss, back_nil, back_cons, backO, backE, setBoxes, importB, mode_mut, mode_give, mode_io, mode_ro, List.zip_cons_cons, List.zip_nil_left, List.zip_nil_right, ite_self, ite_true, ite_false, finish_give, finish_mut1, finish_io0, finish_io1, finish_io2, finish_io3, finish_ioc, finI, finC, finW_ptr, SH, Int.reduceToNat, id_eq, Int.reduceBEq, Int.reduceLE, Int.reduceLT, Nat.reduceAdd, Nat.reduceEqDiff, Nat.reduceLT, Nat.reduceLeDiff, Nat.reduceMul, Nat.reduceSub, reduceIte]
end Go.Proofs.YtokjpncehggojaaGreat.Flat
