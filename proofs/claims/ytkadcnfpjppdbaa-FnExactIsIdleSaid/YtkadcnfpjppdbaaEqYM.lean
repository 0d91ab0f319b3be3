/-
Which roles are reached: the plain law, no program in sight.
-/
import Derived.Test.YtkadcnfpjppdbaaEqG
import Derived.Test.YtkadcnfpjppdbaaEqH
import Derived.Test.YtkadcnfpjppdbaaEqA
import Derived.Test.YtkadcnfpjppdbaaEqL
set_option linter.unusedVariables false
set_option linter.unusedSimpArgs false
namespace Go.Proofs.Ytkadcnfpjppdbaa.Flat.Roles
def isR (z : Int) : Bool := decide (0 ≤ z) && decide (z ≤ 5)
/-- A pair that counts: from a to b. -/
def Edge (l : List (Int × Int)) (a b : Nat) : Prop := ∃ x ∈ l, isR x.1 = true ∧ isR x.2 = true ∧ x.1.toNat = a ∧ x.2.toNat = b
inductive Reach (l : List (Int × Int)) : Nat → Nat → Prop
  | refl (a : Nat) : Reach l a a
  | step {a b c : Nat} (h : Reach l a b) (e : Edge l b c) : Reach l a c
theorem Reach.trans {l : List (Int × Int)} {a b c : Nat} (h : Reach l a b) (h' : Reach l b c) : Reach l a c := by
  induction h' with
  | refl => exact h
  | step _ e ih => exact .step ih e
def Has (m : List Bool) (i : Nat) : Prop := m[i]? = some true
def stepS (m : List Bool) (x : Int × Int) : List Bool := if (isR x.1 && isR x.2 && (m[x.1.toNat]?).getD false) = true then m.set x.2.toNat true else m
def pass (l : List (Int × Int)) (m : List Bool) : List Bool := l.foldl stepS m
def passes (l : List (Int × Int)) : Nat → List Bool → List Bool
  | 0, m => m
  | n + 1, m => passes l n (pass l m)
/-- How many are marked. -/
def cnt (m : List Bool) : Nat := m.count true
/-- Six passes reach all that is reached. -/
def marks (l : List (Int × Int)) (r : Nat) : List Bool := passes l 6 ((List.replicate 6 false).set r true)
/-! ### the other side: what is still to do -/
/-- One pair, for role at: what is reached, what is still to do. -/
def stepB (at' : Int) (p : List Bool × List Int) (x : Int × Int) : List Bool × List Int :=
  if (x.1 == at' && (isR x.2 && !((p.1[x.2.toNat]?).getD false))) = true then (p.1.set x.2.toNat true, p.2 ++ [x.2]) else p
def roundB (l : List (Int × Int)) (at' : Int) (p : List Bool × List Int) : List Bool × List Int := l.foldl (stepB at') p
/-- The rounds, at most n. -/
def belowN (l : List (Int × Int)) : Nat → List Bool → List Int → List Bool
  | 0, m, _ => m
  | _, m, [] => m
  | n + 1, m, a :: t => belowN l n (roundB l a (m, t)).1 (roundB l a (m, t)).2
def below (l : List (Int × Int)) (r : Int) : List Bool := belowN l 7 (List.replicate 6 false) [r]
/-- Reached by one pair or more. -/
def Reach1 (l : List (Int × Int)) (a c : Nat) : Prop := ∃ b, Reach l a b ∧ Edge l b c
/-- What is marked is reached, and what is to do. -/
def Sound (l : List (Int × Int)) (r : Nat) (p : List Bool × List Int) : Prop := (∀ i, Has p.1 i → Reach1 l r i) ∧ ∀ z ∈ p.2, isR z = true ∧ Reach l r z.toNat
/-- How much there is to do. -/
def left (p : List Bool × List Int) : Nat := 6 - cnt p.1 + p.2.length
end Go.Proofs.Ytkadcnfpjppdbaa.Flat.Roles
set_option maxRecDepth 10000
namespace Go.Proofs.Ytkadcnfpjppdbaa.Flat
theorem rowss_bools (m : List Bool) : AV.rowss (m.map AV.bool) = [] := by
  induction m with
  | nil => rfl
  | cons b m ih => simpa [AV.rowss, AV.rows] using ih
theorem boxess_bools (m : List Bool) : AV.boxess (m.map AV.bool) = [] := by
  induction m with
  | nil => rfl
  | cons b m ih => simpa [AV.boxess, AV.boxes] using ih
theorem mapOs_bools {f : Nat → Bool → Nat → Nat → List AV → AV} {g : Nat → Nat → AV} {h : Bool → Nat → Bool → Nat → Nat → List AV → Nat → Nat → AV} {z : Unit → AV} (m : List Bool) : AV.mapOs f g h z (m.map AV.bool) = m.map AV.bool := by
  induction m with
  | nil => rfl
  | cons b m ih => simp [AV.mapOs, AV.mapO, ih]
/-- The roles under a role, by the marks. -/
def under (m : List Bool) (n : Nat) : List Int := ((List.range n).filter fun i => (m[i]?).getD false).map Int.ofNat
end Go.Proofs.Ytkadcnfpjppdbaa.Flat
namespace Go.Proofs.Ytkadcnfpjppdbaa.Flat
theorem evCall_mutOwn {Φ : Phi} {nid n id : Nat} {b : Bool} {e sz : Nat} {xs : List AV} {v : AV} {dst : Option Nat} {st : St} : evCall Φ [.mut, .ro] nid n [.own id b e sz xs, v] [] dst st = evGive Φ nid n [(.mut, .own id b e sz xs), (.ro, v)] dst st := rfl
theorem evCall_mutAgg {Φ : Phi} {nid n : Nat} {cs : List AV} {v : AV} {dst : Option Nat} {st : St} : evCall Φ [.mut, .ro] nid n [.agg cs, v] [] dst st = evGive Φ nid n [(.mut, .agg cs), (.ro, v)] dst st := rfl
end Go.Proofs.Ytkadcnfpjppdbaa.Flat
namespace Go.Proofs.Ytkadcnfpjppdbaa.Flat
theorem evCall_rg {Φ : Phi} {nid n : Nat} {x y : AV} {dst : Option Nat} {st : St} : evCall Φ [.ro, .give] nid n [x, y] [] dst st = evGive Φ nid n [(.ro, x), (.give, y)] dst st := rfl
theorem evCall_gr {Φ : Phi} {nid n : Nat} {x y : AV} {dst : Option Nat} {st : St} : evCall Φ [.give, .ro] nid n [x, y] [] dst st = evGive Φ nid n [(.give, x), (.ro, y)] dst st := rfl
theorem finish_rg {P : Program} {rs : List ResultVar} {st : St} : finish P [.ro, .give] rs 0 st = finish P [] rs 0 st := rfl
theorem finish_gr {P : Program} {rs : List ResultVar} {st : St} : finish P [.give, .ro] rs 0 st = finish P [] rs 0 st := rfl
noncomputable def addLeaf (x : Cond) (out : List Cond) : List Cond := if (inR x.op 2 6 && ((x.args.length : Int) == 0) && !(out.any fun own => decide (own = x))) = true then out ++ [x] else out
mutual
noncomputable def gather : Cond → List Cond → List Cond
  | ⟨o, a, b, s⟩, out => gathers s (addLeaf ⟨o, a, b, s⟩ out)
noncomputable def gathers : List Cond → List Cond → List Cond
  | [], out => out
  | c :: r, out => gathers r (gather c out)
end
theorem gather_eq (x : Cond) (out : List Cond) : gather x out = gathers x.args (addLeaf x out) := by
  cases x
  simp -implicitDefEqProofs only [gather]
def Leaves (l : List Cond) : Prop := ∀ c ∈ l, c.args = []
theorem addLeaf_leaves {x : Cond} {out : List Cond} (h : Leaves out) : Leaves (addLeaf x out) := by
  unfold addLeaf
  split
  · rename_i h2
    simp -implicitDefEqProofs only [Bool.and_eq_true, beq_iff_eq] at h2
    intro c hc
    rcases List.mem_append.1 hc with hc | hc
    · exact h c hc
    · rw [List.mem_singleton] at hc
      subst hc
      exact List.length_eq_zero_iff.1 (by have := h2.1.2; omega)
  · exact h
theorem addLeaf_len (x : Cond) (out : List Cond) : (addLeaf x out).length ≤ out.length + 1 := by
  unfold addLeaf
  split
  · simp
  · omega
theorem gather_facts (x : Cond) : ∀ out, (Leaves out → Leaves (gather x out)) ∧ (gather x out).length ≤ out.length + (x.w + 1) := by
  induction x using Cond.induct with
  | h x ih =>
    intro out
    have h : ∀ (s : List Cond), (∀ d ∈ s, d ∈ x.args) → ∀ out, (Leaves out → Leaves (gathers s out)) ∧ (gathers s out).length ≤ out.length + wl Cond.w s := by
      intro s
      induction s with
      | nil => intro _ out; exact ⟨fun h => h, by simp [gathers, wl]⟩
      | cons c r ihr =>
        intro hs out
        have h1 := ih c (hs c (by simp)) out
        have h2 := ihr (fun d hd => hs d (by simp [hd])) (gather c out)
        refine ⟨fun h => h2.1 (h1.1 h), ?_⟩
        simp -implicitDefEqProofs only [gathers, wl]
        omega
    have h3 := h x.args (fun d hd => hd) (addLeaf x out)
    have h4 := addLeaf_len x out
    rw [gather_eq, x.w_eq]
    exact ⟨fun h => h3.1 (addLeaf_leaves h), by omega⟩
theorem gathers_facts : ∀ (s : List Cond) (out : List Cond), (Leaves out → Leaves (gathers s out)) ∧ (gathers s out).length ≤ out.length + wl Cond.w s
  | [], out => ⟨fun h => h, by simp [gathers, wl]⟩
  | c :: r, out => by
    have h1 := gather_facts c out
    have h2 := gathers_facts r (gather c out)
    refine ⟨fun h => h2.1 (h1.1 h), ?_⟩
    simp -implicitDefEqProofs only [gathers, wl]
    omega
theorem scals_leaves : ∀ {l : List Cond}, Leaves l → AV.scals (l.map (Cond.enc true)) = true
  | [], _ => rfl
  | c :: r, h => by
    have h1 : c.args = [] := h c (by simp)
    simp -implicitDefEqProofs only [List.map_cons, AV.scals, enc_Cond, h1, List.map_nil, AV.scal, Bool.true_and, scals_leaves fun d hd => h d (List.mem_cons_of_mem _ hd)]
theorem wl_leaves : ∀ {l : List Cond}, Leaves l → wl Cond.w l = l.length
  | [], _ => rfl
  | c :: r, h => by
    have h1 : c.args = [] := h c (by simp)
    have h2 : c.w = 0 := by rw [c.w_eq, h1]; rfl
    simp -implicitDefEqProofs only [wl, List.length_cons, h2, wl_leaves fun d hd => h d (List.mem_cons_of_mem _ hd)]
    omega
def gStep (f : Cond → List Cond → List Cond) (_ : Nat) (c : Cond) (b : List Cond) : Sum (List Cond) (List Cond) := .inr (f c b)
theorem gLoop : ∀ (s : List Cond) (i : Nat) (b : List Cond), loopL (gStep gather) id i s b = gathers s b
  | [], i, b => rfl
  | c :: r, i, b => by
    simp -implicitDefEqProofs only [loopL, gStep, gathers]
    exact gLoop r _ _
theorem leaf_nil {x : Cond} (h : ((x.args.length : Int) == 0) = true) : x.args = [] := List.length_eq_zero_iff.1 (by rw [beq_iff_eq] at h; omega)
theorem r_impl_copyLeaf {fl : Bool} (k : Nat) (hk : 281474976710656 + 1 ≤ k) (x : Cond) (hx : x.args = []) : run E noExt k 30 [x.enc fl] [] = some (.agg [.int .i64 x.op, .int .i64 x.a, .int .i64 x.b, .nils], []) := by
  obtain ⟨k, rfl⟩ : ∃ j, k = j + 1 := ⟨k - 1, by omega⟩
  rw [run_succ rfl rfl, body_eq (nt := 29) (fn := Go.Proofs.Try.f30) (by kernel_rfl) rfl rfl rfl rfl rfl rfl rfl rfl]
  simp -implicitDefEqProofs only [QS, QN, QO, ZRS, ↓ZDS, ZRO, ↓ZDO, enc_Cond, hx, Go.Proofs.Try.f30, SO, SH, evAppend, rowOf, noref, isRef, isPtr, noPtr, isBad, AV.isUndef, dedup, nodupB, idx, AV.rows, AV.rowss, AV.mapO, AV.mapOs, SN, evCutRow, Int.reduceToNat, id_eq, Int.reduceBEq, Int.reduceLE, Int.reduceLT, SS, one_ne2, num_ne2, TIS, MDS, AV.cells, AV.isCell, Value.cells, Nat.reduceAdd, Nat.reduceEqDiff, Nat.reduceLT, Nat.reduceLeDiff, Nat.reduceMul, Nat.reduceSub, reduceIte]
  rw [ev_loop]
  refine Eq.trans (loop_list (Q := fun (_ : Unit) z => thenEnd E.P [] _ 0 (thenEv E _ _ _ _ _ (outOf 0 z)) = some (.agg [.int .i64 x.op, .int .i64 x.a, .int .i64 x.b, .nils], [])) ([] : List Unit) (fun _ _ _ => .inr ()) id
    (fun i _ => { sl := [(2, .ptr 0 0), (3, .ptr 1 0), (14, .sl fl []), (15, .int .i64 0), (16, .int .i64 (i : Nat))], bx := [(0, [.int .i64 0, .int .i64 0, .int .i64 0, .nils]), (1, [.int .i64 x.op, .int .i64 x.a, .int .i64 x.b, .nils])], nx := 2, nt := 29, tree := E.tree 30 }) (fun _ _ => True) () ?_ ?_ (by simp; omega) trivial ?_) rfl
  · intro _ _
    simp -implicitDefEqProofs only [QS, QN, QG, QO, ZRS, ↓ZDS, ZRG, ↓ZDG, ZRO, ↓ZDO, SO, SH, evAppend, rowOf, noref, isRef, isPtr, noPtr, isBad, AV.isUndef, leaf_some, isNormal, ifEv_bool, gate_bool, gateP_bool, gateQ_bool, pick_bool, SN, evCutRow, Int.reduceToNat, id_eq, Int.reduceBEq, Int.reduceLE, Int.reduceLT, SS, one_ne2, num_ne2, TIS, MDS, AV.cells, AV.isCell, Value.cells, Nat.reduceAdd, Nat.reduceEqDiff, Nat.reduceLT, Nat.reduceLeDiff, Nat.reduceMul, Nat.reduceSub, reduceIte]
    repeat' (split <;> (rename_i h; (try simp -implicitDefEqProofs only [Bool.not_eq_true', Bool.not_eq_false', decide_eq_true_eq, decide_eq_false_iff_not] at h); (try simp -implicitDefEqProofs only [QS, QN, QG, QO, ZRS, ↓ZDS, ZRG, ↓ZDG, ZRO, ↓ZDO, *, SO, SH, evAppend, rowOf, noref, isRef, isPtr, noPtr, isBad, AV.isUndef, leaf_some, isNormal, ifEv_bool, gate_bool, gateP_bool, gateQ_bool, pick_bool, SN, evCutRow, Int.reduceToNat, id_eq, Int.reduceBEq, Int.reduceLE, Int.reduceLT, SS, one_ne2, num_ne2, TIS, MDS, AV.cells, AV.isCell, Value.cells, Nat.reduceAdd, Nat.reduceEqDiff, Nat.reduceLT, Nat.reduceLeDiff, Nat.reduceMul, Nat.reduceSub, reduceIte])))
  · intro pre c r _ hs' _
    simp at hs'
  · simp -implicitDefEqProofs only [firstRegion]
    rw [keep_30_3]
    simp -implicitDefEqProofs only [QS, QN, QG, QO, ZRS, ↓ZDS, ZRG, ↓ZDG, ZRO, ↓ZDO, SN, evCutRow, Int.reduceToNat, id_eq, Int.reduceBEq, Int.reduceLE, Int.reduceLT, SO, SH, evAppend, rowOf, noref, isRef, isPtr, noPtr, isBad, AV.isUndef, SS, one_ne2, num_ne2, TIS, MDS, AV.cells, AV.isCell, Value.cells, Nat.reduceAdd, Nat.reduceEqDiff, Nat.reduceLT, Nat.reduceLeDiff, Nat.reduceMul, Nat.reduceSub, reduceIte]
theorem r_spec_copyLeaf {fl : Bool} (k : Nat) (hk : 281474976710656 + 1 ≤ k) (x : Cond) (hx : x.args = []) : run E noExt k 28 [x.enc fl] [] = some (.agg [.int .i64 x.op, .int .i64 x.a, .int .i64 x.b, .nils], []) := by
  obtain ⟨k, rfl⟩ : ∃ j, k = j + 1 := ⟨k - 1, by omega⟩
  rw [run_succ rfl rfl, body_eq (nt := 31) (fn := Go.Proofs.Try.f28) (by kernel_rfl) rfl rfl rfl rfl rfl rfl rfl rfl]
  simp -implicitDefEqProofs only [QS, QN, QO, ZRS, ↓ZDS, ZRO, ↓ZDO, enc_Cond, hx, Go.Proofs.Try.f28, SO, SH, evAppend, rowOf, noref, isRef, isPtr, noPtr, isBad, AV.isUndef, dedup, nodupB, idx, AV.rows, AV.rowss, AV.mapO, AV.mapOs, SN, evCutRow, Int.reduceToNat, id_eq, Int.reduceBEq, Int.reduceLE, Int.reduceLT, SS, one_ne2, num_ne2, TIS, MDS, AV.cells, AV.isCell, Value.cells, Nat.reduceAdd, Nat.reduceEqDiff, Nat.reduceLT, Nat.reduceLeDiff, Nat.reduceMul, Nat.reduceSub, reduceIte]
  rw [ev_loop]
  refine Eq.trans (loop_list (Q := fun (_ : Unit) z => thenEnd E.P [] _ 0 (thenEv E _ _ _ _ _ (outOf 0 z)) = some (.agg [.int .i64 x.op, .int .i64 x.a, .int .i64 x.b, .nils], [])) ([] : List Unit) (fun _ _ _ => .inr ()) id
    (fun i _ => { sl := [(1, .ptr 0 0), (2, .ptr 1 0), (3, .ptr 2 0), (4, .int .i64 (i : Nat))], bx := [(0, [.int .i64 x.op, .int .i64 x.a, .int .i64 x.b, .sl fl []]), (1, [.int .i64 0, .int .i64 0, .int .i64 0, .nils]), (2, [.int .i64 x.op, .int .i64 x.a, .int .i64 x.b, .nils])], nx := 3, nt := 31, tree := E.tree 28 }) (fun _ _ => True) () ?_ ?_ (by simp; omega) trivial ?_) rfl
  · intro _ _
    simp -implicitDefEqProofs only [QS, QN, QG, QO, ZRS, ↓ZDS, ZRG, ↓ZDG, ZRO, ↓ZDO, SO, SH, evAppend, rowOf, noref, isRef, isPtr, noPtr, isBad, AV.isUndef, leaf_some, isNormal, ifEv_bool, gate_bool, gateP_bool, gateQ_bool, pick_bool, SN, evCutRow, Int.reduceToNat, id_eq, Int.reduceBEq, Int.reduceLE, Int.reduceLT, SS, one_ne2, num_ne2, TIS, MDS, AV.cells, AV.isCell, Value.cells, Nat.reduceAdd, Nat.reduceEqDiff, Nat.reduceLT, Nat.reduceLeDiff, Nat.reduceMul, Nat.reduceSub, reduceIte]
    repeat' (split <;> (rename_i h; (try simp -implicitDefEqProofs only [Bool.not_eq_true', Bool.not_eq_false', decide_eq_true_eq, decide_eq_false_iff_not] at h); (try simp -implicitDefEqProofs only [QS, QN, QG, QO, ZRS, ↓ZDS, ZRG, ↓ZDG, ZRO, ↓ZDO, *, SO, SH, evAppend, rowOf, noref, isRef, isPtr, noPtr, isBad, AV.isUndef, leaf_some, isNormal, ifEv_bool, gate_bool, gateP_bool, gateQ_bool, pick_bool, SN, evCutRow, Int.reduceToNat, id_eq, Int.reduceBEq, Int.reduceLE, Int.reduceLT, SS, one_ne2, num_ne2, TIS, MDS, AV.cells, AV.isCell, Value.cells, Nat.reduceAdd, Nat.reduceEqDiff, Nat.reduceLT, Nat.reduceLeDiff, Nat.reduceMul, Nat.reduceSub, reduceIte])))
  · intro pre c r _ hs' _
    simp at hs'
  · simp -implicitDefEqProofs only [firstRegion]
    rw [keep_28_3]
    simp -implicitDefEqProofs only [QS, QN, QG, QO, ZRS, ↓ZDS, ZRG, ↓ZDG, ZRO, ↓ZDO, SN, evCutRow, Int.reduceToNat, id_eq, Int.reduceBEq, Int.reduceLE, Int.reduceLT, SO, SH, evAppend, rowOf, noref, isRef, isPtr, noPtr, isBad, AV.isUndef, SS, one_ne2, num_ne2, TIS, MDS, AV.cells, AV.isCell, Value.cells, Nat.reduceAdd, Nat.reduceEqDiff, Nat.reduceLT, Nat.reduceLeDiff, Nat.reduceMul, Nat.reduceSub, reduceIte]
theorem r_impl_gathered0 {fl : Bool} (x : Cond) : ∀ k, 290271069732864 + 4 * x.w + 20 ≤ k → x.w ≤ 1099511627776 → ∀ out, Leaves out → out.length + x.w ≤ 2199023255552 →
    run E noExt k 73 [x.enc fl, .own 0 false 42 4 (out.map (Cond.enc true))] [] = some (.own 0 false 42 4 ((gather x out).map (Cond.enc true)), []) := by
  induction x using Cond.induct with
  | h x ih =>
    intro k hk hx out ho hlen
    have hfa := gathers_facts x.args
    have hal := addLeaf_len x out
    have hav := addLeaf_leaves (x := x) ho
    rw [x.w_eq] at hk hx hlen
    have hs1 := wl_length Cond.w x.args
    have hs : x.args.length ≤ 140737488355328 := by omega
    have cc := fun c hc => ih c hc (k - 1) (by have := wl_mem (w := Cond.w) hc; omega) (by have := wl_mem (w := Cond.w) hc; omega)
    have c1 := r_impl_InRange (k - 1) (by omega) x.op 2 6
    have c2 := r_slices_ContainsFunc_Cond (fl := true) (k - 1) out (by omega) (by omega) 85 [.cptr [.int .i64 x.op, .int .i64 x.a, .int .i64 x.b, .sl fl (x.args.map (Cond.enc fl))]] (plain_of rfl) (fun own => decide (own = x)) (fun c hc => by
      have c0 := r_impl_EqualConds (fl := true) (gl := fl) (k - 4) (by omega) c x (by rw [c.w_eq, ho c hc]; simp [wl])
      rw [show k - 1 - 2 = (k - 4) + 1 by omega]
      rw [run_succ rfl rfl, body_eq (nt := 7) (fn := Go.Proofs.Try.f85) (by kernel_rfl) rfl rfl rfl rfl rfl rfl rfl rfl]
      simp -implicitDefEqProofs only [enc_Cond] at c0
      simp -implicitDefEqProofs only [QS, QN, ZRS, ↓ZDS, enc_Cond, Go.Proofs.Try.f85, c0, SN, evCutRow, Int.reduceToNat, id_eq, Int.reduceBEq, Int.reduceLE, Int.reduceLT, SS, one_ne2, num_ne2, TIS, MDS, AV.cells, AV.isCell, Value.cells, Nat.reduceAdd, Nat.reduceEqDiff, Nat.reduceLT, Nat.reduceLeDiff, Nat.reduceMul, Nat.reduceSub, reduceIte])
    have c3 := fun h => r_impl_copyLeaf (fl := fl) (k - 1) (by omega) x (leaf_nil h)
    have hm1 : (out.length + 1) * 48 ≤ 140737488355328 := by omega
    have hm2 : out.length + 1 ≤ 9223372036854775807 := by omega
    have hpl : plains [(AV.agg [.int .i64 x.op, .int .i64 x.a, .int .i64 x.b, .sl true []])] = true := rfl
    have hsc := scals_leaves ho
    rw [gather_eq]
    obtain ⟨k, rfl⟩ : ∃ j, k = j + 1 := ⟨k - 1, by omega⟩
    rw [run_succ rfl rfl, body_eq (nt := 39) (fn := Go.Proofs.Try.f73) (by kernel_rfl) rfl rfl rfl rfl rfl rfl rfl rfl]
    simp -implicitDefEqProofs only [Nat.add_sub_cancel, enc_Cond] at c1 c2 c3 cc
    clear ih
    have hA : (addLeaf x out).map (Cond.enc true) = if (inR x.op 2 6 && ((x.args.length : Int) == 0) && !(out.any fun own => decide (own = x))) = true then out.map (Cond.enc true) ++ [.agg [.int .i64 x.op, .int .i64 x.a, .int .i64 x.b, .sl true []]] else out.map (Cond.enc true) := by
      unfold addLeaf
      split
      · rename_i h
        simp -implicitDefEqProofs only [Bool.and_eq_true] at h
        have hL := leaf_nil h.1.2
        rw [List.map_append, List.map_cons, List.map_nil, enc_Cond, hL]
        rfl
      · rfl
    generalize addLeaf x out = b0 at *
    generalize out.any (fun own => decide (own = x)) = an at *
    generalize inR x.op 2 6 = io at *
    generalize hLL : ((x.args.length : Int) == 0) = L0 at *
    have hwd := fun i => (wl_append Cond.w (x.args.take i) (x.args.drop i)).symm
    simp -implicitDefEqProofs only [List.take_append_drop] at hwd
    cases io <;> cases L0 <;> cases an
    all_goals
      simp -implicitDefEqProofs only [Bool.and_self, Bool.and_true, Bool.and_false, Bool.not_true, Bool.not_false, Bool.false_and, Bool.true_and, Bool.false_eq_true, if_false, if_true] at hA
      simp -implicitDefEqProofs only [QS, QN, QO, ZRS, ↓ZDS, ZRO, ↓ZDO, Go.Proofs.Try.f73, enc_Cond, hLL, c1, c2, c3, hm1, hm2, hpl, hsc, not_false_eq_true, ifEv_bool, gate_bool, pick_bool, if_false, if_true, SO, SH, evAppend, rowOf, noref, isRef, isPtr, noPtr, isBad, AV.isUndef, dedup, nodupB, idx, AV.rows, AV.rowss, AV.mapO, AV.mapOs, SN, evCutRow, Int.reduceToNat, id_eq, Int.reduceBEq, Int.reduceLE, Int.reduceLT, SS, one_ne2, num_ne2, TIS, MDS, AV.cells, AV.isCell, Value.cells, Nat.reduceAdd, Nat.reduceEqDiff, Nat.reduceLT, Nat.reduceLeDiff, Nat.reduceMul, Nat.reduceSub, reduceIte]
      rw [ev_loop]
      refine Eq.trans (loop_list (Q := fun (g : List Cond) z => thenEnd E.P _ _ 0 (thenEv E _ _ _ _ _ (outOf 0 z)) = some (.own 0 false 42 4 (g.map (Cond.enc true)), [])) x.args (gStep gather) id
        (fun i b => { sl := [(1, .own 0 false 42 4 (b.map (Cond.enc true))), (28, .sl fl (x.args.map (Cond.enc fl))), (29, .int .i64 (x.args.length : Nat)), (30, .int .i64 (i : Nat))], bx := [], nx := 1, nt := 39 })
        (fun i b => Leaves b ∧ b.length + wl Cond.w (x.args.drop i) ≤ out.length + 1 + wl Cond.w x.args) b0 ?_ ?_ (by omega) ⟨hav, by rw [List.drop_zero]; omega⟩ ?_) ?_
      · intro b _
        simp -implicitDefEqProofs only [QS, QN, QG, QO, ZRS, ↓ZDS, ZRG, ↓ZDG, ZRO, ↓ZDO, finish_rg, SO, SH, evAppend, rowOf, noref, isRef, isPtr, noPtr, isBad, AV.isUndef, leaf_some, isNormal, ifEv_bool, gate_bool, gateP_bool, gateQ_bool, pick_bool, SN, evCutRow, Int.reduceToNat, id_eq, Int.reduceBEq, Int.reduceLE, Int.reduceLT, SS, one_ne2, num_ne2, TIS, MDS, AV.cells, AV.isCell, Value.cells, Nat.reduceAdd, Nat.reduceEqDiff, Nat.reduceLT, Nat.reduceLeDiff, Nat.reduceMul, Nat.reduceSub, reduceIte]
        repeat' (split <;> (rename_i h; (try simp -implicitDefEqProofs only [Bool.not_eq_true', Bool.not_eq_false', decide_eq_true_eq, decide_eq_false_iff_not] at h); (try simp -implicitDefEqProofs only [QS, QN, QG, QO, ZRS, ↓ZDS, ZRG, ↓ZDG, ZRO, ↓ZDO, *, finish_rg, SO, SH, evAppend, rowOf, noref, isRef, isPtr, noPtr, isBad, AV.isUndef, leaf_some, isNormal, ifEv_bool, gate_bool, gateP_bool, gateQ_bool, pick_bool, SN, evCutRow, Int.reduceToNat, id_eq, Int.reduceBEq, Int.reduceLE, Int.reduceLT, SS, one_ne2, num_ne2, TIS, MDS, AV.cells, AV.isCell, Value.cells, Nat.reduceAdd, Nat.reduceEqDiff, Nat.reduceLT, Nat.reduceLeDiff, Nat.reduceMul, Nat.reduceSub, reduceIte])))
      · intro pre c r b hs' ⟨hb1, hb2⟩
        have hx := (at_row hs' hs).1; have hc := (at_row hs' hs).2.1; have hlt := (at_row hs' hs).2.2.1; have hw1 := (at_row hs' hs).2.2.2.1; have hl9 := (at_row hs' hs).2.2.2.2
        have hd : x.args.drop pre.length = c :: r := by rw [hs']; simp
        have hd1 : x.args.drop (pre.length + 1) = r := by rw [hs']; simp
        have hg1 := gather_facts c b
        rw [hd] at hb2
        simp -implicitDefEqProofs only [wl] at hb2
        have c4 := cc c hc b hb1 (by omega)
        have hI : Leaves (gather c b) ∧ (gather c b).length + wl Cond.w (x.args.drop (pre.length + 1)) ≤ out.length + 1 + wl Cond.w x.args := by
          rw [hd1]
          exact ⟨hg1.1 hb1, by have := hg1.2; omega⟩
        clear hs' hd hd1
        have hs1 := scals_leaves hb1
        have hs2 := scals_leaves hI.1
        simp -implicitDefEqProofs only [QS, QN, QG, QO, ZRS, ↓ZDS, ZRG, ↓ZDG, ZRO, ↓ZDO, enc_Cond, hx, hlt, hw1, c4, hs1, hs2, gStep, evCall_rg, look_cons, reduceCtorEq, evCall_mutOwn, evCall_mutAgg, evGive, giveRows, ioBoxes, mutArgs, roArgs, handArg, mutSlots, isPtrB, pairs, pairss, back_nil, back_cons, backO, backE, setBoxes, importB, mode_mut, mode_give, mode_io, mode_ro, List.zip_cons_cons, List.zip_nil_left, List.zip_nil_right, ite_self, ite_true, ite_false, finish_give, finish_mut1, finish_io0, finish_io1, finish_io2, finish_io3, finish_ioc, finI, finC, finW_ptr, SO, SH, evAppend, rowOf, noref, isRef, isPtr, noPtr, isBad, AV.isUndef, keep_73_4, leaf_some, isNormal, ifEv_bool, gate_bool, gateP_bool, gateQ_bool, pick_bool, SN, evCutRow, Int.reduceToNat, id_eq, Int.reduceBEq, Int.reduceLE, Int.reduceLT, SS, one_ne2, num_ne2, TIS, MDS, AV.cells, AV.isCell, Value.cells, Nat.reduceAdd, Nat.reduceEqDiff, Nat.reduceLT, Nat.reduceLeDiff, Nat.reduceMul, Nat.reduceSub, reduceIte]
        repeat' (split <;> (rename_i h; (try simp -implicitDefEqProofs only [Bool.not_eq_true', Bool.not_eq_false', decide_eq_true_eq, decide_eq_false_iff_not] at h); (try simp -implicitDefEqProofs only [QS, QN, QG, QO, ZRS, ↓ZDS, ZRG, ↓ZDG, ZRO, ↓ZDO, *, enc_Cond, hx, hlt, hw1, c4, hs1, hs2, gStep, evCall_rg, look_cons, reduceCtorEq, evCall_mutOwn, evCall_mutAgg, evGive, giveRows, ioBoxes, mutArgs, roArgs, handArg, mutSlots, isPtrB, pairs, pairss, back_nil, back_cons, backO, backE, setBoxes, importB, mode_mut, mode_give, mode_io, mode_ro, List.zip_cons_cons, List.zip_nil_left, List.zip_nil_right, ite_self, ite_true, ite_false, finish_give, finish_mut1, finish_io0, finish_io1, finish_io2, finish_io3, finish_ioc, finI, finC, finW_ptr, SO, SH, evAppend, rowOf, noref, isRef, isPtr, noPtr, isBad, AV.isUndef, keep_73_4, leaf_some, isNormal, ifEv_bool, gate_bool, gateP_bool, gateQ_bool, pick_bool, SN, evCutRow, Int.reduceToNat, id_eq, Int.reduceBEq, Int.reduceLE, Int.reduceLT, SS, one_ne2, num_ne2, TIS, MDS, AV.cells, AV.isCell, Value.cells, Nat.reduceAdd, Nat.reduceEqDiff, Nat.reduceLT, Nat.reduceLeDiff, Nat.reduceMul, Nat.reduceSub, reduceIte])))
        exact hI
      · simp -implicitDefEqProofs only [firstRegion]
        rw [keep_73_4]
        simp -implicitDefEqProofs only [QS, QN, QG, QO, ZRS, ↓ZDS, ZRG, ↓ZDG, ZRO, ↓ZDO, hA, SN, evCutRow, Int.reduceToNat, id_eq, Int.reduceBEq, Int.reduceLE, Int.reduceLT, SO, SH, evAppend, rowOf, noref, isRef, isPtr, noPtr, isBad, AV.isUndef, SS, one_ne2, num_ne2, TIS, MDS, AV.cells, AV.isCell, Value.cells, Nat.reduceAdd, Nat.reduceEqDiff, Nat.reduceLT, Nat.reduceLeDiff, Nat.reduceMul, Nat.reduceSub, reduceIte]
      · rw [gLoop]
def anyStepG {α : Type} (p : α → Bool) (_ : Nat) (c : α) (_ : Unit) : Sum Bool Unit := if p c = true then .inl true else .inr ()
theorem anyLoopG {α : Type} (p : α → Bool) : ∀ (l : List α) (i : Nat), loopL (anyStepG p) (fun _ => false) i l () = l.any p
  | [], i => rfl
  | c :: r, i => by
    simp -implicitDefEqProofs only [loopL, anyStepG, List.any_cons]
    cases h : p c
    · simpa using anyLoopG p r (i + 1)
    · rfl
theorem r_spec_l15Leaves0 {fl : Bool} (x : Cond) : ∀ k, 290271069732864 + 4 * x.w + 20 ≤ k → x.w ≤ 1099511627776 → ∀ out, Leaves out → out.length + x.w ≤ 2199023255552 →
    run E noExt k 51 [.own 0 false 42 4 (out.map (Cond.enc true)), x.enc fl] [] = some (.own 0 false 42 4 ((gather x out).map (Cond.enc true)), []) := by
  induction x using Cond.induct with
  | h x ih =>
    intro k hk hx out ho hlen
    have hal := addLeaf_len x out
    have hav := addLeaf_leaves (x := x) ho
    rw [x.w_eq] at hk hx hlen
    have hs1 := wl_length Cond.w x.args
    have hs : x.args.length ≤ 140737488355328 := by omega
    have hso : out.length ≤ 140737488355328 := by omega
    have cc := fun c hc => ih c hc (k - 1) (by have := wl_mem (w := Cond.w) hc; omega) (by have := wl_mem (w := Cond.w) hc; omega)
    have c1 := r_spec_l1In (k - 1) (by omega) x.op 2 6
    have c2 := fun c (hc : c ∈ out) => r_spec_EqualConds (fl := true) (gl := fl) (k - 1) (by omega) c x (by rw [c.w_eq, ho c hc]; simp [wl])
    have c3 := fun h => r_spec_copyLeaf (fl := fl) (k - 1) (by omega) x (leaf_nil h)
    have hm1 : (out.length + 1) * 48 ≤ 140737488355328 := by omega
    have hm2 : out.length + 1 ≤ 9223372036854775807 := by omega
    have hpl : plains [(AV.agg [.int .i64 x.op, .int .i64 x.a, .int .i64 x.b, .sl true []])] = true := rfl
    have hsc := scals_leaves ho
    rw [gather_eq]
    obtain ⟨k, rfl⟩ : ∃ j, k = j + 1 := ⟨k - 1, by omega⟩
    rw [run_succ rfl rfl, body_eq (nt := 49) (fn := Go.Proofs.Try.f51) (by kernel_rfl) rfl rfl rfl rfl rfl rfl rfl rfl]
    simp -implicitDefEqProofs only [Nat.add_sub_cancel, enc_Cond] at c1 c2 c3 cc
    clear ih
    by_cases hcond : (inR x.op 2 6 && ((x.args.length : Int) == 0)) = true
    · have hcd := hcond
      rw [Bool.and_eq_true] at hcd
      have hL := leaf_nil hcd.2
      have hz0 : ((((0 : Nat) : Int)) == 0) = true := rfl
      have hA : (gathers x.args (addLeaf x out)).map (Cond.enc true) = if (out.any fun own => decide (own = x)) = true then out.map (Cond.enc true) else out.map (Cond.enc true) ++ [.agg [.int .i64 x.op, .int .i64 x.a, .int .i64 x.b, .sl true []]] := by
        unfold addLeaf
        rw [hcond, hL]
        simp -implicitDefEqProofs only [gathers]
        cases out.any fun own => decide (own = x)
        · simp -implicitDefEqProofs only [Bool.not_false, Bool.and_self, if_true, Bool.false_eq_true, if_false, List.map_append, List.map_cons, List.map_nil, enc_Cond, hL]
        · simp
      rw [hA, ← anyLoopG _ out 0]
      rw [hcd.1] at c1
      have c4 := c3 hcd.2
      rw [hL] at c2 c4
      simp -implicitDefEqProofs only [List.map_nil] at c2 c4
      simp -implicitDefEqProofs only [QS, QN, QO, ZRS, ↓ZDS, ZRO, ↓ZDO, Go.Proofs.Try.f51, enc_Cond, hL, hz0, c1, ifEv_bool, gate_bool, pick_bool, if_false, if_true, SO, SH, evAppend, rowOf, noref, isRef, isPtr, noPtr, isBad, AV.isUndef, dedup, nodupB, idx, AV.rows, AV.rowss, AV.mapO, AV.mapOs, SN, evCutRow, Int.reduceToNat, id_eq, Int.reduceBEq, Int.reduceLE, Int.reduceLT, SS, one_ne2, num_ne2, TIS, MDS, AV.cells, AV.isCell, Value.cells, Nat.reduceAdd, Nat.reduceEqDiff, Nat.reduceLT, Nat.reduceLeDiff, Nat.reduceMul, Nat.reduceSub, reduceIte]
      rw [ev_loop]
      refine loop_list (Q := fun (g : Bool) z => thenEnd E.P _ _ 0 (thenEv E _ _ _ _ _ (thenEv E _ _ _ _ _ (outOf 0 z))) = some (.own 0 false 42 4 (if g = true then out.map (Cond.enc true) else out.map (Cond.enc true) ++ [.agg [.int .i64 x.op, .int .i64 x.a, .int .i64 x.b, .sl true []]]), [])) out (anyStepG fun own => decide (own = x)) (fun _ => false)
        (fun i _ => { sl := [(0, .own 0 false 42 4 (out.map (Cond.enc true))), (3, .ptr 0 0), (5, .int .i64 (i : Nat))], bx := [(0, [.int .i64 x.op, .int .i64 x.a, .int .i64 x.b, .sl fl []])], nx := 2, nt := 49 })
        (fun _ _ => True) () ?_ ?_ ?_ trivial ?_
      · intro _ _
        simp -implicitDefEqProofs only [QS, QN, QG, QO, ZRS, ↓ZDS, ZRG, ↓ZDG, ZRO, ↓ZDO, c4, hm1, hm2, hpl, finish_gr, SO, SH, evAppend, rowOf, noref, isRef, isPtr, noPtr, isBad, AV.isUndef, leaf_some, isNormal, ifEv_bool, gate_bool, gateP_bool, gateQ_bool, pick_bool, SN, evCutRow, Int.reduceToNat, id_eq, Int.reduceBEq, Int.reduceLE, Int.reduceLT, SS, one_ne2, num_ne2, TIS, MDS, AV.cells, AV.isCell, Value.cells, Nat.reduceAdd, Nat.reduceEqDiff, Nat.reduceLT, Nat.reduceLeDiff, Nat.reduceMul, Nat.reduceSub, reduceIte]
        repeat' (split <;> (rename_i h; (try simp -implicitDefEqProofs only [Bool.not_eq_true', Bool.not_eq_false', decide_eq_true_eq, decide_eq_false_iff_not] at h); (try simp -implicitDefEqProofs only [QS, QN, QG, QO, ZRS, ↓ZDS, ZRG, ↓ZDG, ZRO, ↓ZDO, *, c4, hm1, hm2, hpl, finish_gr, SO, SH, evAppend, rowOf, noref, isRef, isPtr, noPtr, isBad, AV.isUndef, leaf_some, isNormal, ifEv_bool, gate_bool, gateP_bool, gateQ_bool, pick_bool, SN, evCutRow, Int.reduceToNat, id_eq, Int.reduceBEq, Int.reduceLE, Int.reduceLT, SS, one_ne2, num_ne2, TIS, MDS, AV.cells, AV.isCell, Value.cells, Nat.reduceAdd, Nat.reduceEqDiff, Nat.reduceLT, Nat.reduceLeDiff, Nat.reduceMul, Nat.reduceSub, reduceIte])))
      · intro pre c r _ hs' _
        have hx := (at_row hs' hso).1; have hc := (at_row hs' hso).2.1; have hlt := (at_row hs' hso).2.2.1; have hw1 := (at_row hs' hso).2.2.2.1; have hl9 := (at_row hs' hso).2.2.2.2
        clear hs'
        have c5 := c2 c hc
        have hcL := ho c hc
        simp -implicitDefEqProofs only [QS, QN, QG, QO, ZRS, ↓ZDS, ZRG, ↓ZDG, ZRO, ↓ZDO, enc_Cond, hx, hlt, hw1, c5, anyStepG, finish_gr, plan_51_5, SO, SH, evAppend, rowOf, noref, isRef, isPtr, noPtr, isBad, AV.isUndef, keep_51_3, leaf_some, isNormal, ifEv_bool, gate_bool, gateP_bool, gateQ_bool, pick_bool, SN, evCutRow, Int.reduceToNat, id_eq, Int.reduceBEq, Int.reduceLE, Int.reduceLT, SS, one_ne2, num_ne2, TIS, MDS, AV.cells, AV.isCell, Value.cells, Nat.reduceAdd, Nat.reduceEqDiff, Nat.reduceLT, Nat.reduceLeDiff, Nat.reduceMul, Nat.reduceSub, reduceIte]
        repeat' (split <;> (rename_i h; (try simp -implicitDefEqProofs only [Bool.not_eq_true', Bool.not_eq_false', decide_eq_true_eq, decide_eq_false_iff_not] at h); (try simp -implicitDefEqProofs only [QS, QN, QG, QO, ZRS, ↓ZDS, ZRG, ↓ZDG, ZRO, ↓ZDO, *, enc_Cond, hx, hlt, hw1, c5, anyStepG, finish_gr, plan_51_5, SO, SH, evAppend, rowOf, noref, isRef, isPtr, noPtr, isBad, AV.isUndef, keep_51_3, leaf_some, isNormal, ifEv_bool, gate_bool, gateP_bool, gateQ_bool, pick_bool, SN, evCutRow, Int.reduceToNat, id_eq, Int.reduceBEq, Int.reduceLE, Int.reduceLT, SS, one_ne2, num_ne2, TIS, MDS, AV.cells, AV.isCell, Value.cells, Nat.reduceAdd, Nat.reduceEqDiff, Nat.reduceLT, Nat.reduceLeDiff, Nat.reduceMul, Nat.reduceSub, reduceIte])))
        trace_state
      · omega
      · simp -implicitDefEqProofs only [firstRegion]
        rw [keep_51_3]
        simp -implicitDefEqProofs only [QS, QN, QG, QO, ZRS, ↓ZDS, ZRG, ↓ZDG, ZRO, ↓ZDO, SN, evCutRow, Int.reduceToNat, id_eq, Int.reduceBEq, Int.reduceLE, Int.reduceLT, SO, SH, evAppend, rowOf, noref, isRef, isPtr, noPtr, isBad, AV.isUndef, SS, one_ne2, num_ne2, TIS, MDS, AV.cells, AV.isCell, Value.cells, Nat.reduceAdd, Nat.reduceEqDiff, Nat.reduceLT, Nat.reduceLeDiff, Nat.reduceMul, Nat.reduceSub, reduceIte]
    · have hA : addLeaf x out = out := by
        unfold addLeaf
        rw [Bool.not_eq_true] at hcond
        rw [hcond]
        rfl
      rw [hA]
      have hwd := fun i => (wl_append Cond.w (x.args.take i) (x.args.drop i)).symm
      simp -implicitDefEqProofs only [List.take_append_drop] at hwd
      generalize hLL : ((x.args.length : Int) == 0) = L0 at *
      generalize inR x.op 2 6 = io at *
      cases io <;> cases L0
      all_goals first | exact absurd rfl hcond | skip
      all_goals
        simp -implicitDefEqProofs only [QS, QN, QO, ZRS, ↓ZDS, ZRO, ↓ZDO, Go.Proofs.Try.f51, enc_Cond, hLL, c1, ifEv_bool, gate_bool, pick_bool, if_false, if_true, SO, SH, evAppend, rowOf, noref, isRef, isPtr, noPtr, isBad, AV.isUndef, dedup, nodupB, idx, AV.rows, AV.rowss, AV.mapO, AV.mapOs, SN, evCutRow, Int.reduceToNat, id_eq, Int.reduceBEq, Int.reduceLE, Int.reduceLT, SS, one_ne2, num_ne2, TIS, MDS, AV.cells, AV.isCell, Value.cells, Nat.reduceAdd, Nat.reduceEqDiff, Nat.reduceLT, Nat.reduceLeDiff, Nat.reduceMul, Nat.reduceSub, reduceIte]
        rw [ev_loop]
        refine Eq.trans (loop_list (Q := fun (g : List Cond) z => thenEnd E.P _ _ 0 (thenEv E _ _ _ _ _ (outOf 2 z)) = some (.own 0 false 42 4 (g.map (Cond.enc true)), [])) x.args (gStep gather) id
          (fun i b => { sl := [(0, .own 0 false 42 4 (b.map (Cond.enc true))), (3, .ptr 0 0), (6, .int .i64 (i : Nat))], bx := [(0, [.int .i64 x.op, .int .i64 x.a, .int .i64 x.b, .sl fl (x.args.map (Cond.enc fl))])], nx := 2, nt := 49 })
          (fun i b => Leaves b ∧ b.length + wl Cond.w (x.args.drop i) ≤ out.length + 1 + wl Cond.w x.args) out ?_ ?_ (by omega) ⟨ho, by rw [List.drop_zero]; omega⟩ ?_) ?_
        · intro b _
          simp -implicitDefEqProofs only [QS, QN, QG, QO, ZRS, ↓ZDS, ZRG, ↓ZDG, ZRO, ↓ZDO, finish_gr, SO, SH, evAppend, rowOf, noref, isRef, isPtr, noPtr, isBad, AV.isUndef, leaf_some, isNormal, ifEv_bool, gate_bool, gateP_bool, gateQ_bool, pick_bool, SN, evCutRow, Int.reduceToNat, id_eq, Int.reduceBEq, Int.reduceLE, Int.reduceLT, SS, one_ne2, num_ne2, TIS, MDS, AV.cells, AV.isCell, Value.cells, Nat.reduceAdd, Nat.reduceEqDiff, Nat.reduceLT, Nat.reduceLeDiff, Nat.reduceMul, Nat.reduceSub, reduceIte]
          repeat' (split <;> (rename_i h; (try simp -implicitDefEqProofs only [Bool.not_eq_true', Bool.not_eq_false', decide_eq_true_eq, decide_eq_false_iff_not] at h); (try simp -implicitDefEqProofs only [QS, QN, QG, QO, ZRS, ↓ZDS, ZRG, ↓ZDG, ZRO, ↓ZDO, *, finish_gr, SO, SH, evAppend, rowOf, noref, isRef, isPtr, noPtr, isBad, AV.isUndef, leaf_some, isNormal, ifEv_bool, gate_bool, gateP_bool, gateQ_bool, pick_bool, SN, evCutRow, Int.reduceToNat, id_eq, Int.reduceBEq, Int.reduceLE, Int.reduceLT, SS, one_ne2, num_ne2, TIS, MDS, AV.cells, AV.isCell, Value.cells, Nat.reduceAdd, Nat.reduceEqDiff, Nat.reduceLT, Nat.reduceLeDiff, Nat.reduceMul, Nat.reduceSub, reduceIte])))
        · intro pre c r b hs' ⟨hb1, hb2⟩
          have hx := (at_row hs' hs).1; have hc := (at_row hs' hs).2.1; have hlt := (at_row hs' hs).2.2.1; have hw1 := (at_row hs' hs).2.2.2.1; have hl9 := (at_row hs' hs).2.2.2.2
          have hd : x.args.drop pre.length = c :: r := by rw [hs']; simp
          have hd1 : x.args.drop (pre.length + 1) = r := by rw [hs']; simp
          have hg1 := gather_facts c b
          rw [hd] at hb2
          simp -implicitDefEqProofs only [wl] at hb2
          have c4 := cc c hc b hb1 (by omega)
          have hI : Leaves (gather c b) ∧ (gather c b).length + wl Cond.w (x.args.drop (pre.length + 1)) ≤ out.length + 1 + wl Cond.w x.args := by
            rw [hd1]
            exact ⟨hg1.1 hb1, by have := hg1.2; omega⟩
          clear hs' hd hd1
          have hs1 := scals_leaves hb1
          have hs2 := scals_leaves hI.1
          simp -implicitDefEqProofs only [QS, QN, QG, QO, ZRS, ↓ZDS, ZRG, ↓ZDG, ZRO, ↓ZDO, enc_Cond, hx, hlt, hw1, c4, hs1, hs2, gStep, evCall_gr, look_cons, reduceCtorEq, evCall_mutOwn, evCall_mutAgg, evGive, giveRows, ioBoxes, mutArgs, roArgs, handArg, mutSlots, isPtrB, pairs, pairss, back_nil, back_cons, backO, backE, setBoxes, importB, mode_mut, mode_give, mode_io, mode_ro, List.zip_cons_cons, List.zip_nil_left, List.zip_nil_right, ite_self, ite_true, ite_false, finish_give, finish_mut1, finish_io0, finish_io1, finish_io2, finish_io3, finish_ioc, finI, finC, finW_ptr, SO, SH, evAppend, rowOf, noref, isRef, isPtr, noPtr, isBad, AV.isUndef, keep_51_9, leaf_some, isNormal, ifEv_bool, gate_bool, gateP_bool, gateQ_bool, pick_bool, SN, evCutRow, Int.reduceToNat, id_eq, Int.reduceBEq, Int.reduceLE, Int.reduceLT, SS, one_ne2, num_ne2, TIS, MDS, AV.cells, AV.isCell, Value.cells, Nat.reduceAdd, Nat.reduceEqDiff, Nat.reduceLT, Nat.reduceLeDiff, Nat.reduceMul, Nat.reduceSub, reduceIte]
          repeat' (split <;> (rename_i h; (try simp -implicitDefEqProofs only [Bool.not_eq_true', Bool.not_eq_false', decide_eq_true_eq, decide_eq_false_iff_not] at h); (try simp -implicitDefEqProofs only [QS, QN, QG, QO, ZRS, ↓ZDS, ZRG, ↓ZDG, ZRO, ↓ZDO, *, enc_Cond, hx, hlt, hw1, c4, hs1, hs2, gStep, evCall_gr, look_cons, reduceCtorEq, evCall_mutOwn, evCall_mutAgg, evGive, giveRows, ioBoxes, mutArgs, roArgs, handArg, mutSlots, isPtrB, pairs, pairss, back_nil, back_cons, backO, backE, setBoxes, importB, mode_mut, mode_give, mode_io, mode_ro, List.zip_cons_cons, List.zip_nil_left, List.zip_nil_right, ite_self, ite_true, ite_false, finish_give, finish_mut1, finish_io0, finish_io1, finish_io2, finish_io3, finish_ioc, finI, finC, finW_ptr, SO, SH, evAppend, rowOf, noref, isRef, isPtr, noPtr, isBad, AV.isUndef, keep_51_9, leaf_some, isNormal, ifEv_bool, gate_bool, gateP_bool, gateQ_bool, pick_bool, SN, evCutRow, Int.reduceToNat, id_eq, Int.reduceBEq, Int.reduceLE, Int.reduceLT, SS, one_ne2, num_ne2, TIS, MDS, AV.cells, AV.isCell, Value.cells, Nat.reduceAdd, Nat.reduceEqDiff, Nat.reduceLT, Nat.reduceLeDiff, Nat.reduceMul, Nat.reduceSub, reduceIte])))
          exact hI
        · simp -implicitDefEqProofs only [firstRegion]
          rw [keep_51_9]
          simp -implicitDefEqProofs only [QS, QN, QG, QO, ZRS, ↓ZDS, ZRG, ↓ZDG, ZRO, ↓ZDO, SN, evCutRow, Int.reduceToNat, id_eq, Int.reduceBEq, Int.reduceLE, Int.reduceLT, SO, SH, evAppend, rowOf, noref, isRef, isPtr, noPtr, isBad, AV.isUndef, SS, one_ne2, num_ne2, TIS, MDS, AV.cells, AV.isCell, Value.cells, Nat.reduceAdd, Nat.reduceEqDiff, Nat.reduceLT, Nat.reduceLeDiff, Nat.reduceMul, Nat.reduceSub, reduceIte]
        · rw [gLoop]
end Go.Proofs.Ytkadcnfpjppdbaa.Flat


