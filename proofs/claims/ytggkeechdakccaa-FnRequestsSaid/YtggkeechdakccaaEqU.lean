/-
Roles under roles, epochs as they should be.
-/
import Derived.Test.YtggkeechdakccaaEqR
import Derived.Test.YtggkeechdakccaaFlatM4
set_option linter.unusedVariables false
set_option linter.unusedSimpArgs false
set_option maxRecDepth 10000
namespace Go.Proofs.Ytggkeechdakccaa.Flat
theorem r_impl_isRole (k : Nat) (hk : 281474976710656 + 2 ≤ k) (z : Int) : run E noExt k 70 [.int .i64 z] [] = some (.bool (inR z 0 5), []) := by
  obtain ⟨k, rfl⟩ : ∃ j, k = j + 1 := ⟨k - 1, by omega⟩
  rw [run_succ rfl rfl, body_eq (nt := 5) (fn := Go.Proofs.Try.f70) (by kernel_rfl) rfl rfl rfl rfl rfl rfl rfl rfl]
  have c_impl_InRange := r_impl_InRange k (by omega)
  simp -implicitDefEqProofs only [W1, ↓D1, ↓DC, QX, Go.Proofs.Try.f70, c_impl_InRange, Int.reduceToNat, id_eq, Int.reduceBEq, Int.reduceLE, Int.reduceLT, Nat.reduceAdd, Nat.reduceEqDiff, Nat.reduceLT, Nat.reduceLeDiff, Nat.reduceMul, Nat.reduceSub, reduceIte]
  repeat' (split <;> (rename_i h; (try simp -implicitDefEqProofs only [Bool.not_eq_true', Bool.not_eq_false', decide_eq_true_eq, decide_eq_false_iff_not] at h); (try simp -implicitDefEqProofs only [W1, ↓D1, ↓DC, QX, *, c_impl_InRange, Int.reduceToNat, id_eq, Int.reduceBEq, Int.reduceLE, Int.reduceLT, Nat.reduceAdd, Nat.reduceEqDiff, Nat.reduceLT, Nat.reduceLeDiff, Nat.reduceMul, Nat.reduceSub, reduceIte])))
theorem rowss_bools (m : List Bool) : AV.rowss (m.map AV.bool) = [] := by
  induction m with
  | nil => rfl
  | cons b m ih => simpa [AV.rowss, AV.rows] using ih
theorem boxess_bools (m : List Bool) : AV.boxess (m.map AV.bool) = [] := by
  induction m with
  | nil => rfl
  | cons b m ih => simpa [AV.boxess, AV.boxes] using ih
theorem mapOs_bools {f : Nat → Bool → Nat → Nat → List AV → AV} {g : Nat → Nat → AV} {h : Bool → Nat → Bool → Nat → Nat → List AV → Nat → Nat → AV} {z : Unit → AV} (m : List Bool) : AV.mapOs f g h z (m.map AV.bool) = m.map AV.bool := by
  induction m with
  | nil => rfl
  | cons b m ih => simp [AV.mapOs, AV.mapO, ih]
theorem maps_bools {f : Nat → Bool → Nat → Nat → List AV → AV} {g : Nat → Nat → AV} {h : Bool → Nat → Bool → Nat → Nat → List AV → Nat → Nat → AV} {z : Unit → AV} (m : List Bool) : List.map (fun v => AV.mapO f g h z v) (m.map AV.bool) = m.map AV.bool := by
  have := mapOs_bools (f := f) (g := g) (h := h) (z := z) m
  rw [AV.mapOs_eq] at this
  exact this
theorem ren_bools {g b : List Nat} (m : List Bool) : List.map (renameB g b) (m.map AV.bool) = m.map AV.bool := maps_bools m
theorem allRows_bools {p : Nat → Bool} (m : List Bool) : List.all (m.map AV.bool) (fun v => List.all v.rows p) = true := by
  induction m with
  | nil => rfl
  | cons b m ih => simp [AV.rows]
theorem plain_bools (m : List Bool) : (m.map AV.bool).all plainC = true := by
  induction m with
  | nil => rfl
  | cons b m ih => simp [plainC]
theorem cells_bools (m : List Bool) : (m.map AV.bool).all AV.isCell = true := by
  induction m with
  | nil => rfl
  | cons b m ih => simp [AV.isCell]
theorem head_bools {m : List Bool} {i : Nat} (h : i < m.length) : (List.drop i (m.map AV.bool)).head? = some (.bool ((m[i]?).getD false)) := by
  rw [List.head?_drop, List.getElem?_map, List.getElem?_eq_getElem h]
  rfl
theorem store_bools {m : List Bool} {i : Nat} {b : Bool} (h : i < m.length) : List.take i (m.map AV.bool) ++ [.bool b] ++ List.drop (i + 1) (m.map AV.bool) = (m.set i b).map AV.bool := by
  rw [← List.map_take, ← List.map_drop, List.set_eq_take_append_cons_drop, if_pos h]
  simp
def pairOf (x : Includes) : Int × Int := (x.greater, x.lesser)
def belowStep (a : Int) (_ : Nat) (x : Includes) (p : List Bool × List Int) : Sum (List Bool × List Int) (List Bool × List Int) := .inr (Roles.stepB a p (pairOf x))
theorem belowLoop (a : Int) : ∀ (s : List Includes) (i : Nat) (p : List Bool × List Int), loopL (belowStep a) id i s p = Roles.roundB (s.map pairOf) a p
  | [], i, p => rfl
  | x :: r, i, p => by simp -implicitDefEqProofs only [loopL, belowStep]; rw [belowLoop a r]; rfl
theorem r_impl_below {fl : Bool} (k : Nat) (hk : 281474976710656 + 3 ≤ k) (l : List Includes) (hl : l.length ≤ 140737488355328) (r : Int) :
    run E noExt k 71 [.sl fl (l.map (Includes.enc fl)), .int .i64 r] [] = some (.agg ((Roles.ends (l.map pairOf) (List.replicate 6 false, [r])).map AV.bool), []) := by
  have c0 := r_impl_isRole (k - 1) (by omega)
  obtain ⟨k, rfl⟩ : ∃ j, k = j + 1 := ⟨k - 1, by omega⟩
  rw [run_succ rfl rfl, body_eq (nt := 53) (fn := Go.Proofs.Try.f71) (by kernel_rfl) rfl rfl rfl rfl rfl rfl rfl rfl]
  simp -implicitDefEqProofs only [Nat.add_sub_cancel] at c0
  simp -implicitDefEqProofs only [W3, ↓D3, ↓DA, ↓DP, ↓DC, Go.Proofs.Try.f71, Int.reduceToNat, id_eq, Int.reduceBEq, Int.reduceLE, Int.reduceLT, SH, Nat.reduceAdd, Nat.reduceEqDiff, Nat.reduceLT, Nat.reduceLeDiff, Nat.reduceMul, Nat.reduceSub, reduceIte]
  rw [ev_loop]
  refine Eq.trans (loop_while (Q := fun (g : List Bool) x => thenEnd E.P [] _ 0 (thenEv E _ _ _ _ _ (outOf 0 x)) = some (.agg (g.map AV.bool), []))
    (fun p => match p.2 with | [] => none | a :: t => some (Roles.roundB (l.map pairOf) a (p.1, t))) (Roles.ends (l.map pairOf))
    (fun p => { sl := [(0, .sl fl (l.map (Includes.enc fl))), (4, .ptr 0 0), (5, .ptr 1 0), (6, .own 0 false 3 1 (p.2.map (AV.int .i64)))], bx := [(0, [.bool false, .bool false, .bool false, .bool false, .bool false, .bool false]), (1, p.1.map AV.bool)], nx := 3, nt := 53 })
    (fun p => p.1.length = 6 ∧ Roles.left p ≤ 7) Roles.left (List.replicate 6 false, [r]) ?_ ?_ ?_ ⟨rfl, ?_⟩ ?_) ?_
  · rintro ⟨m, t⟩ ⟨h1, h2⟩
    simp only at h1
    have ht : List.take 6 (List.map AV.bool m) = List.map AV.bool m := List.take_of_length_le (by simp [h1])
    cases t with
    | nil =>
      simp -implicitDefEqProofs only [W2, ↓D2, ↓DC, QX, h1, ht, cells_bools, Nat.min_self, Roles.ends_nil, plain_bools, leaf_some, isNormal, Int.reduceToNat, id_eq, Int.reduceBEq, Int.reduceLE, Int.reduceLT, Nat.reduceAdd, Nat.reduceEqDiff, Nat.reduceLT, Nat.reduceLeDiff, Nat.reduceMul, Nat.reduceSub, reduceIte]
      repeat' (split <;> (rename_i h; (try simp -implicitDefEqProofs only [Bool.not_eq_true', Bool.not_eq_false', decide_eq_true_eq, decide_eq_false_iff_not] at h); (try simp -implicitDefEqProofs only [W2, ↓D2, ↓DC, QX, *, h1, ht, cells_bools, Nat.min_self, Roles.ends_nil, plain_bools, leaf_some, isNormal, Int.reduceToNat, id_eq, Int.reduceBEq, Int.reduceLE, Int.reduceLT, Nat.reduceAdd, Nat.reduceEqDiff, Nat.reduceLT, Nat.reduceLeDiff, Nat.reduceMul, Nat.reduceSub, reduceIte])))
    | cons a t =>
      have hp : ((0 : Int) < ((t.length + 1 : Nat) : Int)) = True := by simp
      have hq : ((1 : Int) ≤ ((t.length + 1 : Nat) : Int)) = True := by simp; omega
      simp -implicitDefEqProofs only [W4, ↓D4, ↓DA, ↓DP, ↓DC, QX, h1, hp, hq, Int.reduceToNat, SH, dedup, nodupB, idx, AV.rows, AV.rowss, AV.mapO, AV.mapOs, leaf_some, isNormal, id_eq, Int.reduceBEq, Int.reduceLE, Int.reduceLT, Nat.reduceAdd, Nat.reduceEqDiff, Nat.reduceLT, Nat.reduceLeDiff, Nat.reduceMul, Nat.reduceSub, reduceIte]
      repeat' (split <;> (rename_i h; (try simp -implicitDefEqProofs only [Bool.not_eq_true', Bool.not_eq_false', decide_eq_true_eq, decide_eq_false_iff_not] at h); (try simp -implicitDefEqProofs only [W4, ↓D4, ↓DA, ↓DP, ↓DC, QX, *, h1, hp, hq, Int.reduceToNat, SH, dedup, nodupB, idx, AV.rows, AV.rowss, AV.mapO, AV.mapOs, leaf_some, isNormal, id_eq, Int.reduceBEq, Int.reduceLE, Int.reduceLT, Nat.reduceAdd, Nat.reduceEqDiff, Nat.reduceLT, Nat.reduceLeDiff, Nat.reduceMul, Nat.reduceSub, reduceIte])))
      rw [ev_loop]
      refine loop_list (Q := fun g z => g = Roles.roundB (l.map pairOf) a (m, t) → Leaf (outOf 1 (outOf 2 z)) _) l (belowStep a) id
        (fun i p => { sl := [(0, .sl fl (l.map (Includes.enc fl))), (4, .ptr 0 0), (5, .ptr 1 0), (6, .own 0 false 3 1 (p.2.map (AV.int .i64))), (7, .int .i64 a), (21, .sl fl (l.map (Includes.enc fl))), (22, .int .i64 (l.length : Nat)), (23, .int .i64 (i : Nat))], bx := [(0, [.bool false, .bool false, .bool false, .bool false, .bool false, .bool false]), (1, p.1.map AV.bool)], nx := 3, nt := 53 })
        (fun _ p => p.1.length = 6 ∧ p.2.length ≤ Roles.cnt p.1 + 7) (m, t) ?_ ?_ (by omega) ⟨h1, ?_⟩ ?_ (belowLoop a l 0 (m, t))
      · rintro ⟨m', t'⟩ ⟨h3, h4⟩
        simp only at h3 h4
        simp -implicitDefEqProofs only [W2, ↓D2, ↓DC, QX, h3, rowss_bools, boxess_bools, allRows_bools, maps_bools, mapOs_bools, ren_bools, id_eq, keep_71_3, leaf_some, isNormal, Int.reduceToNat, Int.reduceBEq, Int.reduceLE, Int.reduceLT, Nat.reduceAdd, Nat.reduceEqDiff, Nat.reduceLT, Nat.reduceLeDiff, Nat.reduceMul, Nat.reduceSub, reduceIte]
        repeat' (split <;> (rename_i h; (try simp -implicitDefEqProofs only [Bool.not_eq_true', Bool.not_eq_false', decide_eq_true_eq, decide_eq_false_iff_not] at h); (try simp -implicitDefEqProofs only [W2, ↓D2, ↓DC, QX, *, h3, rowss_bools, boxess_bools, allRows_bools, maps_bools, mapOs_bools, ren_bools, id_eq, keep_71_3, leaf_some, isNormal, Int.reduceToNat, Int.reduceBEq, Int.reduceLE, Int.reduceLT, Nat.reduceAdd, Nat.reduceEqDiff, Nat.reduceLT, Nat.reduceLeDiff, Nat.reduceMul, Nat.reduceSub, reduceIte])))
        intro he
        rw [← he]
      · rintro pre x r' ⟨m', t'⟩ hs' ⟨h3, h4⟩
        simp only at h3 h4
        have hx := (at_row hs' hl).1; have hc := (at_row hs' hl).2.1; have hlt := (at_row hs' hl).2.2.1; have hw1 := (at_row hs' hl).2.2.2.1; have hl9 := (at_row hs' hl).2.2.2.2
        clear hs'
        have hc1 := Roles.cnt_le h3
        by_cases e1 : (x.greater == a) = true
        · by_cases e2 : inR x.lesser 0 5 = true
          · have e3 : 0 ≤ x.lesser ∧ x.lesser < 6 := by simp [inR] at e2; omega
            have e4 : x.lesser.toNat < m'.length := by omega
            have e5 := head_bools e4
            have e6 := store_bools (b := true) e4
            have e7 : x.lesser.toNat ≤ 5 := by omega
            have n6 : ((6 : Nat) : Int) = 6 := rfl
            have e8 : Roles.isR x.lesser = true := e2
            generalize hv : (m'[x.lesser.toNat]?).getD false = v at e5
            cases v with
            | false =>
              have hst : Roles.stepB a (m', t') (pairOf x) = (m'.set x.lesser.toNat true, t' ++ [x.lesser]) := by
                simp -implicitDefEqProofs only [Roles.stepB, pairOf, e1, e8, hv, Bool.not_false, Bool.and_self, if_true]
              have hpl : plains [AV.int IntKind.i64 x.lesser] = true := rfl
              have hA : (t'.length + 1) * 8 ≤ 140737488355328 := by omega
              have hB : t'.length ≤ 9223372036854775806 := by omega
              have hn := Roles.stepB_cnt (a := a) (p := (m', t')) (x := pairOf x) h3
              rw [hst] at hn
              have hn2 : (t' ++ [x.lesser]).length ≤ Roles.cnt (m'.set x.lesser.toNat true) + 7 := by simp only at hn; omega
              simp -implicitDefEqProofs only [W3, ↓D3, ↓DA, ↓DP, ↓DC, QX, enc_Includes, hx, hlt, hw1, c0, e1, e2, e3, e5, e6, e7, n6, h3, hst, hpl, hA, hB, hn2, belowStep, List.map_append, List.length_set, Nat.mul_one, rowss_bools, boxess_bools, allRows_bools, maps_bools, mapOs_bools, ren_bools, SH, keep_71_7, leaf_some, isNormal, Int.reduceToNat, id_eq, Int.reduceBEq, Int.reduceLE, Int.reduceLT, Nat.reduceAdd, Nat.reduceEqDiff, Nat.reduceLT, Nat.reduceLeDiff, Nat.reduceMul, Nat.reduceSub, reduceIte]
              repeat' (split <;> (rename_i h; (try simp -implicitDefEqProofs only [Bool.not_eq_true', Bool.not_eq_false', decide_eq_true_eq, decide_eq_false_iff_not] at h); (try simp -implicitDefEqProofs only [W3, ↓D3, ↓DA, ↓DP, ↓DC, QX, *, enc_Includes, hx, hlt, hw1, c0, e1, e2, e3, e5, e6, e7, n6, h3, hst, hpl, hA, hB, hn2, belowStep, List.map_append, List.length_set, Nat.mul_one, rowss_bools, boxess_bools, allRows_bools, maps_bools, mapOs_bools, ren_bools, SH, keep_71_7, leaf_some, isNormal, Int.reduceToNat, id_eq, Int.reduceBEq, Int.reduceLE, Int.reduceLT, Nat.reduceAdd, Nat.reduceEqDiff, Nat.reduceLT, Nat.reduceLeDiff, Nat.reduceMul, Nat.reduceSub, reduceIte])))
            | true =>
              have hst : Roles.stepB a (m', t') (pairOf x) = (m', t') := by
                simp -implicitDefEqProofs only [Roles.stepB, pairOf, e1, e8, hv, Bool.not_true, Bool.and_false, Bool.false_eq_true, if_false]
              simp -implicitDefEqProofs only [W3, ↓D3, ↓DA, ↓DP, ↓DC, QX, enc_Includes, hx, hlt, hw1, c0, e1, e2, e3, e5, n6, h3, h4, hst, belowStep, Nat.mul_one, rowss_bools, boxess_bools, allRows_bools, maps_bools, mapOs_bools, ren_bools, SH, keep_71_7, leaf_some, isNormal, Int.reduceToNat, id_eq, Int.reduceBEq, Int.reduceLE, Int.reduceLT, Nat.reduceAdd, Nat.reduceEqDiff, Nat.reduceLT, Nat.reduceLeDiff, Nat.reduceMul, Nat.reduceSub, reduceIte]
              repeat' (split <;> (rename_i h; (try simp -implicitDefEqProofs only [Bool.not_eq_true', Bool.not_eq_false', decide_eq_true_eq, decide_eq_false_iff_not] at h); (try simp -implicitDefEqProofs only [W3, ↓D3, ↓DA, ↓DP, ↓DC, QX, *, enc_Includes, hx, hlt, hw1, c0, e1, e2, e3, e5, n6, h3, h4, hst, belowStep, Nat.mul_one, rowss_bools, boxess_bools, allRows_bools, maps_bools, mapOs_bools, ren_bools, SH, keep_71_7, leaf_some, isNormal, Int.reduceToNat, id_eq, Int.reduceBEq, Int.reduceLE, Int.reduceLT, Nat.reduceAdd, Nat.reduceEqDiff, Nat.reduceLT, Nat.reduceLeDiff, Nat.reduceMul, Nat.reduceSub, reduceIte])))
          · have e2' : inR x.lesser 0 5 = false := by simpa using e2
            have e8 : Roles.isR x.lesser = false := e2'
            have hst : Roles.stepB a (m', t') (pairOf x) = (m', t') := by
              simp -implicitDefEqProofs only [Roles.stepB, pairOf, e8, Bool.false_and, Bool.and_false, Bool.false_eq_true, if_false]
            simp -implicitDefEqProofs only [W3, ↓D3, ↓DA, ↓DP, ↓DC, QX, enc_Includes, hx, hlt, hw1, c0, e1, e2', h3, h4, hst, belowStep, rowss_bools, boxess_bools, allRows_bools, maps_bools, mapOs_bools, ren_bools, SH, keep_71_7, leaf_some, isNormal, Int.reduceToNat, id_eq, Int.reduceBEq, Int.reduceLE, Int.reduceLT, Nat.reduceAdd, Nat.reduceEqDiff, Nat.reduceLT, Nat.reduceLeDiff, Nat.reduceMul, Nat.reduceSub, reduceIte]
            repeat' (split <;> (rename_i h; (try simp -implicitDefEqProofs only [Bool.not_eq_true', Bool.not_eq_false', decide_eq_true_eq, decide_eq_false_iff_not] at h); (try simp -implicitDefEqProofs only [W3, ↓D3, ↓DA, ↓DP, ↓DC, QX, *, enc_Includes, hx, hlt, hw1, c0, e1, e2', h3, h4, hst, belowStep, rowss_bools, boxess_bools, allRows_bools, maps_bools, mapOs_bools, ren_bools, SH, keep_71_7, leaf_some, isNormal, Int.reduceToNat, id_eq, Int.reduceBEq, Int.reduceLE, Int.reduceLT, Nat.reduceAdd, Nat.reduceEqDiff, Nat.reduceLT, Nat.reduceLeDiff, Nat.reduceMul, Nat.reduceSub, reduceIte])))
        · have e1' : (x.greater == a) = false := by simpa using e1
          have hst : Roles.stepB a (m', t') (pairOf x) = (m', t') := by
            simp -implicitDefEqProofs only [Roles.stepB, pairOf, e1', Bool.false_and, Bool.false_eq_true, if_false]
          simp -implicitDefEqProofs only [W3, ↓D3, ↓DA, ↓DP, ↓DC, QX, enc_Includes, hx, hlt, hw1, c0, e1', h3, h4, hst, belowStep, rowss_bools, boxess_bools, allRows_bools, maps_bools, mapOs_bools, ren_bools, SH, keep_71_7, leaf_some, isNormal, Int.reduceToNat, id_eq, Int.reduceBEq, Int.reduceLE, Int.reduceLT, Nat.reduceAdd, Nat.reduceEqDiff, Nat.reduceLT, Nat.reduceLeDiff, Nat.reduceMul, Nat.reduceSub, reduceIte]
          repeat' (split <;> (rename_i h; (try simp -implicitDefEqProofs only [Bool.not_eq_true', Bool.not_eq_false', decide_eq_true_eq, decide_eq_false_iff_not] at h); (try simp -implicitDefEqProofs only [W3, ↓D3, ↓DA, ↓DP, ↓DC, QX, *, enc_Includes, hx, hlt, hw1, c0, e1', h3, h4, hst, belowStep, rowss_bools, boxess_bools, allRows_bools, maps_bools, mapOs_bools, ren_bools, SH, keep_71_7, leaf_some, isNormal, Int.reduceToNat, id_eq, Int.reduceBEq, Int.reduceLE, Int.reduceLT, Nat.reduceAdd, Nat.reduceEqDiff, Nat.reduceLT, Nat.reduceLeDiff, Nat.reduceMul, Nat.reduceSub, reduceIte])))
      · have h5 := Roles.cnt_le h1
        simp -implicitDefEqProofs only [Roles.left, List.length_cons] at h2
        show t.length ≤ _
        omega
      · simp -implicitDefEqProofs only [firstRegion]
        rw [keep_71_7]
        simp -implicitDefEqProofs only [W3, ↓D3, ↓DA, ↓DP, ↓DC, h1, rowss_bools, boxess_bools, allRows_bools, maps_bools, mapOs_bools, ren_bools, Int.reduceToNat, id_eq, Int.reduceBEq, Int.reduceLE, Int.reduceLT, SH, Nat.reduceAdd, Nat.reduceEqDiff, Nat.reduceLT, Nat.reduceLeDiff, Nat.reduceMul, Nat.reduceSub, reduceIte]
  · rintro ⟨m, t⟩ b' ⟨h1, h2⟩ hn
    cases t with
    | nil => simp at hn
    | cons a t =>
      simp -implicitDefEqProofs only [Option.some.injEq] at hn
      subst hn
      have hl6 : m.length = 6 := h1
      have h3 := Roles.round_left (l := l.map pairOf) (a := a) (t := t) hl6
      refine ⟨⟨by rw [Roles.roundB_len]; exact hl6, by omega⟩, by omega, Roles.ends_cons hl6⟩
  · have : Roles.left (List.replicate 6 false, [r]) = 7 := rfl
    omega
  · have : Roles.left (List.replicate 6 false, [r]) = 7 := rfl
    omega
  · simp -implicitDefEqProofs only [firstRegion]
    rw [keep_71_3]
    simp -implicitDefEqProofs only [W3, ↓D3, ↓DA, ↓DP, ↓DC, rowss_bools, boxess_bools, allRows_bools, maps_bools, mapOs_bools, ren_bools, Int.reduceToNat, id_eq, Int.reduceBEq, Int.reduceLE, Int.reduceLT, SH, Nat.reduceAdd, Nat.reduceEqDiff, Nat.reduceLT, Nat.reduceLeDiff, Nat.reduceMul, Nat.reduceSub, reduceIte]
    rfl
  · rfl
theorem idx_bools {m : List Bool} {i : Nat} (h : i < m.length) : (m.map AV.bool)[i]? = some (.bool ((m[i]?).getD false)) := by
  rw [List.getElem?_map, List.getElem?_eq_getElem h]
  rfl
def under (m : List Bool) (n : Nat) : List Int := ((List.range n).filter fun i => (m[i]?).getD false).map Int.ofNat
noncomputable def rolesUnder (l : List Includes) (r : Int) : List Int := if inR r 0 5 = true then under (Roles.marks (l.map pairOf) r.toNat) 6 else []
theorem under_len (m : List Bool) (n : Nat) : (under m n).length ≤ n := by
  unfold under
  rw [List.length_map]
  exact Nat.le_trans (List.length_filter_le _ _) (by simp)
def goStep (_ : Nat) (_ : Nat) (_ : Unit) : Sum Unit Unit := .inr ()
theorem has_iff {m : List Bool} {i : Nat} : Roles.Has m i ↔ (m[i]?).getD false = true := by
  unfold Roles.Has
  cases m[i]? with
  | none => simp
  | some b => simp
theorem rolesUnder_len (l : List Includes) (r : Int) : (rolesUnder l r).length ≤ 6 := by
  unfold rolesUnder
  split
  · exact under_len _ _
  · simp
theorem plainS_bools (m : List Bool) : (m.map AV.bool).all plainS = true := by
  induction m with
  | nil => rfl
  | cons b m ih => simp [plainS]
def claimOk (kind subject value : Int) : Bool :=
  if (kind == 1) = true then hasKind subject 1 && inR value 0 5 else if (kind == 2) = true then hasKind subject 1 && hasKind value 2 else
  if (kind == 3) = true then hasKind subject 2 && inR value 0 3 else if (kind == 4) = true then hasKind subject 3 && inR value 0 3 else false
def isFact (f : Fact) : Bool := claimOk f.kind f.subject f.value && (inR f.issuer 0 9 && (isT f.at_ && (isT f.until_ && decide (f.at_ ≤ f.until_))))
theorem r_impl_isClaim {fl : Bool} (k : Nat) (hk : 281474976710656 + 5 ≤ k) (x : Fact) : run E noExt k 40 [x.enc fl] [] = some (.bool (claimOk x.kind x.subject x.value), []) := by
  obtain ⟨k, rfl⟩ : ∃ j, k = j + 1 := ⟨k - 1, by omega⟩
  rw [run_succ rfl rfl, body_eq (nt := 45) (fn := Go.Proofs.Try.f40) (by kernel_rfl) rfl rfl rfl rfl rfl rfl rfl rfl]
  have c_impl_InRange := r_impl_InRange k (by omega)
  have c_impl_HasKind := r_impl_HasKind k (by omega)
  simp -implicitDefEqProofs only [W1, ↓D1, ↓DC, QX, Go.Proofs.Try.f40, c_impl_InRange, c_impl_HasKind, enc_Fact, Int.reduceToNat, id_eq, Int.reduceBEq, Int.reduceLE, Int.reduceLT, Nat.reduceAdd, Nat.reduceEqDiff, Nat.reduceLT, Nat.reduceLeDiff, Nat.reduceMul, Nat.reduceSub, reduceIte]
  repeat' (split <;> (rename_i h; (try simp -implicitDefEqProofs only [Bool.not_eq_true', Bool.not_eq_false', decide_eq_true_eq, decide_eq_false_iff_not] at h); (try simp -implicitDefEqProofs only [W1, ↓D1, ↓DC, QX, *, c_impl_InRange, c_impl_HasKind, enc_Fact, Int.reduceToNat, id_eq, Int.reduceBEq, Int.reduceLE, Int.reduceLT, Nat.reduceAdd, Nat.reduceEqDiff, Nat.reduceLT, Nat.reduceLeDiff, Nat.reduceMul, Nat.reduceSub, reduceIte])))
  all_goals simp -implicitDefEqProofs only [claimOk, *, reduceIte, Bool.false_eq_true, Bool.true_and, Bool.false_and]
set_option maxHeartbeats 4000000 in
theorem r_impl_IsFact {fl : Bool} (k : Nat) (hk : 281474976710656 + 6 ≤ k) (x : Fact) : run E noExt k 21 [x.enc fl] [] = some (.bool (isFact x), []) := by
  have c1 := r_impl_isClaim (fl := fl) (k - 1) (by omega) x
  obtain ⟨k, rfl⟩ : ∃ j, k = j + 1 := ⟨k - 1, by omega⟩
  rw [run_succ rfl rfl, body_eq (nt := 27) (fn := Go.Proofs.Try.f21) (by kernel_rfl) rfl rfl rfl rfl rfl rfl rfl rfl]
  simp -implicitDefEqProofs only [Nat.add_sub_cancel, enc_Fact] at c1
  have c_impl_InRange := r_impl_InRange k (by omega)
  have c_impl_IsTime := r_impl_IsTime k (by omega)
  simp -implicitDefEqProofs only [W1, ↓D1, ↓DC, QX, Go.Proofs.Try.f21, c_impl_InRange, c_impl_IsTime, enc_Fact, c1, Int.reduceToNat, id_eq, Int.reduceBEq, Int.reduceLE, Int.reduceLT, Nat.reduceAdd, Nat.reduceEqDiff, Nat.reduceLT, Nat.reduceLeDiff, Nat.reduceMul, Nat.reduceSub, reduceIte]
  repeat' (split <;> (rename_i h; (try simp -implicitDefEqProofs only [Bool.not_eq_true', Bool.not_eq_false', decide_eq_true_eq, decide_eq_false_iff_not] at h); (try simp -implicitDefEqProofs only [W1, ↓D1, ↓DC, QX, *, c_impl_InRange, c_impl_IsTime, enc_Fact, c1, Int.reduceToNat, id_eq, Int.reduceBEq, Int.reduceLE, Int.reduceLT, Nat.reduceAdd, Nat.reduceEqDiff, Nat.reduceLT, Nat.reduceLeDiff, Nat.reduceMul, Nat.reduceSub, reduceIte])))
  all_goals simp -implicitDefEqProofs only [isFact, *, Bool.true_and, Bool.false_and, Bool.and_true, Bool.and_false]
set_option maxHeartbeats 4000000 in
theorem r_spec_IsFact {fl : Bool} (k : Nat) (hk : 281474976710656 + 6 ≤ k) (x : Fact) : run E noExt k 52 [x.enc fl] [] = some (.bool (isFact x), []) := by
  obtain ⟨k, rfl⟩ : ∃ j, k = j + 1 := ⟨k - 1, by omega⟩
  rw [run_succ rfl rfl, body_eq (nt := 69) (fn := Go.Proofs.Try.f52) (by kernel_rfl) rfl rfl rfl rfl rfl rfl rfl rfl]
  have c_spec_HasKind := r_spec_HasKind k (by omega)
  have c_spec_l1In := r_spec_l1In k (by omega)
  have c_spec_IsTime := r_spec_IsTime k (by omega)
  simp -implicitDefEqProofs only [W1, ↓D1, ↓DC, QX, Go.Proofs.Try.f52, c_spec_HasKind, c_spec_l1In, c_spec_IsTime, enc_Fact, Int.reduceToNat, id_eq, Int.reduceBEq, Int.reduceLE, Int.reduceLT, Nat.reduceAdd, Nat.reduceEqDiff, Nat.reduceLT, Nat.reduceLeDiff, Nat.reduceMul, Nat.reduceSub, reduceIte]
  repeat' (split <;> (rename_i h; (try simp -implicitDefEqProofs only [Bool.not_eq_true', Bool.not_eq_false', decide_eq_true_eq, decide_eq_false_iff_not] at h); (try simp -implicitDefEqProofs only [W1, ↓D1, ↓DC, QX, *, c_spec_HasKind, c_spec_l1In, c_spec_IsTime, enc_Fact, Int.reduceToNat, id_eq, Int.reduceBEq, Int.reduceLE, Int.reduceLT, Nat.reduceAdd, Nat.reduceEqDiff, Nat.reduceLT, Nat.reduceLeDiff, Nat.reduceMul, Nat.reduceSub, reduceIte])))
  all_goals simp -implicitDefEqProofs only [isFact, claimOk, *, reduceIte, Bool.false_eq_true, Bool.true_and, Bool.false_and, Bool.and_true, Bool.and_false]
def within (a b n : Int) : Bool := isT a && (isT b && (isT n && inR n a b))
theorem r_impl_IsWithin (k : Nat) (hk : 281474976710656 + 3 ≤ k) (a b n : Int) : run E noExt k 62 [.int .i64 a, .int .i64 b, .int .i64 n] [] = some (.bool (within a b n), []) := by
  obtain ⟨k, rfl⟩ : ∃ j, k = j + 1 := ⟨k - 1, by omega⟩
  rw [run_succ rfl rfl, body_eq (nt := 23) (fn := Go.Proofs.Try.f62) (by kernel_rfl) rfl rfl rfl rfl rfl rfl rfl rfl]
  have c_impl_InRange := r_impl_InRange k (by omega)
  have c_impl_IsTime := r_impl_IsTime k (by omega)
  simp -implicitDefEqProofs only [W1, ↓D1, ↓DC, QX, Go.Proofs.Try.f62, c_impl_InRange, c_impl_IsTime, Int.reduceToNat, id_eq, Int.reduceBEq, Int.reduceLE, Int.reduceLT, Nat.reduceAdd, Nat.reduceEqDiff, Nat.reduceLT, Nat.reduceLeDiff, Nat.reduceMul, Nat.reduceSub, reduceIte]
  repeat' (split <;> (rename_i h; (try simp -implicitDefEqProofs only [Bool.not_eq_true', Bool.not_eq_false', decide_eq_true_eq, decide_eq_false_iff_not] at h); (try simp -implicitDefEqProofs only [W1, ↓D1, ↓DC, QX, *, c_impl_InRange, c_impl_IsTime, Int.reduceToNat, id_eq, Int.reduceBEq, Int.reduceLE, Int.reduceLT, Nat.reduceAdd, Nat.reduceEqDiff, Nat.reduceLT, Nat.reduceLeDiff, Nat.reduceMul, Nat.reduceSub, reduceIte])))
  all_goals simp -implicitDefEqProofs only [within, *, Bool.true_and, Bool.false_and, Bool.and_true, Bool.and_false]
def ageOf (a n : Int) : Int := if isT a = true then (if isT n = true then (if n < a then -1 else IntKind.i64.wrap (n - a)) else -1) else -1
theorem r_impl_AgeOf (k : Nat) (hk : 281474976710656 + 3 ≤ k) (a n : Int) : run E noExt k 63 [.int .i64 a, .int .i64 n] [] = some (.int .i64 (ageOf a n), []) := by
  obtain ⟨k, rfl⟩ : ∃ j, k = j + 1 := ⟨k - 1, by omega⟩
  rw [run_succ rfl rfl, body_eq (nt := 21) (fn := Go.Proofs.Try.f63) (by kernel_rfl) rfl rfl rfl rfl rfl rfl rfl rfl]
  have c_impl_IsTime := r_impl_IsTime k (by omega)
  simp -implicitDefEqProofs only [W1, ↓D1, ↓DC, QX, Go.Proofs.Try.f63, c_impl_IsTime, Int.reduceToNat, id_eq, Int.reduceBEq, Int.reduceLE, Int.reduceLT, Nat.reduceAdd, Nat.reduceEqDiff, Nat.reduceLT, Nat.reduceLeDiff, Nat.reduceMul, Nat.reduceSub, reduceIte]
  repeat' (split <;> (rename_i h; (try simp -implicitDefEqProofs only [Bool.not_eq_true', Bool.not_eq_false', decide_eq_true_eq, decide_eq_false_iff_not] at h); (try simp -implicitDefEqProofs only [W1, ↓D1, ↓DC, QX, *, c_impl_IsTime, Int.reduceToNat, id_eq, Int.reduceBEq, Int.reduceLE, Int.reduceLT, Nat.reduceAdd, Nat.reduceEqDiff, Nat.reduceLT, Nat.reduceLeDiff, Nat.reduceMul, Nat.reduceSub, reduceIte])))
  all_goals simp -implicitDefEqProofs only [ageOf, *, reduceIte, Bool.false_eq_true]
def fresh (a n m : Int) : Bool := decide (0 ≤ ageOf a n) && decide (ageOf a n ≤ m)
def holdsAt (f : Fact) (now age : Int) : Bool := isFact f && (within f.at_ f.until_ now && fresh f.at_ now age)
theorem fresh_within {f : Fact} {now age : Int} (h : within f.at_ f.until_ now = true) : fresh f.at_ now age = decide (ageOf f.at_ now ≤ age) := by
  simp -implicitDefEqProofs only [within, Bool.and_eq_true] at h
  obtain ⟨h1, h2, h3, h4⟩ := h
  have a1 : 0 ≤ f.at_ ∧ f.at_ ≤ 10000 := by simpa [isT, inR] using h1
  have a2 : 0 ≤ now ∧ now ≤ 10000 := by simpa [isT, inR] using h3
  have a3 : f.at_ ≤ now ∧ now ≤ f.until_ := by simpa [inR] using h4
  have : 0 ≤ ageOf f.at_ now := by
    unfold ageOf
    rw [if_pos h1, if_pos h3, if_neg (by omega), IntWalk.i64_in _ (by omega)]
    omega
  simp [fresh, this]
theorem r_impl_HoldsAt {fl : Bool} (k : Nat) (hk : 281474976710656 + 7 ≤ k) (x : Fact) (now age : Int) : run E noExt k 49 [x.enc fl, .int .i64 now, .int .i64 age] [] = some (.bool (holdsAt x now age), []) := by
  have c1 := r_impl_IsFact (fl := fl) (k - 1) (by omega) x
  obtain ⟨k, rfl⟩ : ∃ j, k = j + 1 := ⟨k - 1, by omega⟩
  rw [run_succ rfl rfl, body_eq (nt := 25) (fn := Go.Proofs.Try.f49) (by kernel_rfl) rfl rfl rfl rfl rfl rfl rfl rfl]
  simp -implicitDefEqProofs only [Nat.add_sub_cancel, enc_Fact] at c1
  have c_impl_IsWithin := r_impl_IsWithin k (by omega)
  have c_impl_AgeOf := r_impl_AgeOf k (by omega)
  simp -implicitDefEqProofs only [W1, ↓D1, ↓DC, QX, Go.Proofs.Try.f49, c_impl_IsWithin, c_impl_AgeOf, enc_Fact, c1, Int.reduceToNat, id_eq, Int.reduceBEq, Int.reduceLE, Int.reduceLT, Nat.reduceAdd, Nat.reduceEqDiff, Nat.reduceLT, Nat.reduceLeDiff, Nat.reduceMul, Nat.reduceSub, reduceIte]
  repeat' (split <;> (rename_i h; (try simp -implicitDefEqProofs only [Bool.not_eq_true', Bool.not_eq_false', decide_eq_true_eq, decide_eq_false_iff_not] at h); (try simp -implicitDefEqProofs only [W1, ↓D1, ↓DC, QX, *, c_impl_IsWithin, c_impl_AgeOf, enc_Fact, c1, Int.reduceToNat, id_eq, Int.reduceBEq, Int.reduceLE, Int.reduceLT, Nat.reduceAdd, Nat.reduceEqDiff, Nat.reduceLT, Nat.reduceLeDiff, Nat.reduceMul, Nat.reduceSub, reduceIte])))
  all_goals first
    | (simp -implicitDefEqProofs only [holdsAt, *, Bool.true_and, Bool.false_and, Bool.and_true, Bool.and_false]; done)
    | (simp -implicitDefEqProofs only [holdsAt, fresh_within ‹within x.at_ x.until_ now = true›, *, Bool.true_and, Bool.false_and, Bool.and_true, Bool.and_false]; done)
def bestStep (kind subject now age : Int) (_ : Nat) (f : Fact) (b : Int) : Sum Int Int := .inr (if (f.kind == kind && (f.subject == subject && holdsAt f now age)) = true then (if b < f.value then f.value else b) else b)
def bestValue (s : List Fact) (kind subject now age : Int) : Int := loopL (bestStep kind subject now age) id 0 s (-1)
theorem r_spec_Max (k : Nat) (hk : 281474976710656 + 1 ≤ k) (a b : Int) : run E noExt k 35 [.int .i64 a, .int .i64 b] [] = some (.int .i64 (if a < b then b else a), []) := by
  obtain ⟨k, rfl⟩ : ∃ j, k = j + 1 := ⟨k - 1, by omega⟩
  rw [run_succ rfl rfl, body_eq (nt := 10) (fn := Go.Proofs.Try.f35) (by kernel_rfl) rfl rfl rfl rfl rfl rfl rfl rfl]
  simp -implicitDefEqProofs only [W1, ↓D1, ↓DC, QX, Go.Proofs.Try.f35, Int.reduceToNat, id_eq, Int.reduceBEq, Int.reduceLE, Int.reduceLT, Nat.reduceAdd, Nat.reduceEqDiff, Nat.reduceLT, Nat.reduceLeDiff, Nat.reduceMul, Nat.reduceSub, reduceIte]
  repeat' (split <;> (rename_i h; (try simp -implicitDefEqProofs only [Bool.not_eq_true', Bool.not_eq_false', decide_eq_true_eq, decide_eq_false_iff_not] at h); (try simp -implicitDefEqProofs only [W1, ↓D1, ↓DC, QX, *, Int.reduceToNat, id_eq, Int.reduceBEq, Int.reduceLE, Int.reduceLT, Nat.reduceAdd, Nat.reduceEqDiff, Nat.reduceLT, Nat.reduceLeDiff, Nat.reduceMul, Nat.reduceSub, reduceIte])))
  all_goals simp -implicitDefEqProofs only [*, reduceIte]
theorem r_impl_BestValue {fl : Bool} (k : Nat) (hk : 281474976710656 + 8 ≤ k) (s : List Fact) (hs : s.length ≤ 140737488355328) (kind subject now age : Int) :
    run E noExt k 29 [.sl fl (s.map (Fact.enc fl)), .int .i64 kind, .int .i64 subject, .int .i64 now, .int .i64 age] [] = some (.int .i64 (bestValue s kind subject now age), []) := by
  have c1 := r_impl_HoldsAt (fl := true) (k - 1) (by omega)
  obtain ⟨k, rfl⟩ : ∃ j, k = j + 1 := ⟨k - 1, by omega⟩
  rw [run_succ rfl rfl, body_eq (nt := 42) (fn := Go.Proofs.Try.f29) (by kernel_rfl) rfl rfl rfl rfl rfl rfl rfl rfl]
  simp -implicitDefEqProofs only [Nat.add_sub_cancel, enc_Fact] at c1
  simp -implicitDefEqProofs only [W1, ↓D1, ↓DC, Go.Proofs.Try.f29, Int.reduceToNat, id_eq, Int.reduceBEq, Int.reduceLE, Int.reduceLT, Nat.reduceAdd, Nat.reduceEqDiff, Nat.reduceLT, Nat.reduceLeDiff, Nat.reduceMul, Nat.reduceSub, reduceIte]
  rw [ev_loop]
  refine Eq.trans (loop_list (Q := fun g x => thenEnd E.P [] _ 0 (thenEv E _ _ _ _ _ (outOf 0 x)) = some (.int .i64 g, [])) (s) (bestStep kind subject now age) (id)
    (fun i b => { sl := [(1, .int .i64 kind), (2, .int .i64 subject), (3, .int .i64 now), (4, .int .i64 age), (11, .int .i64 b), (14, .sl fl (s.map (Fact.enc fl))), (15, .int .i64 (s.length : Nat)), (16, .int .i64 (i : Nat))], bx := [], nx := 0, nt := 42 }) (fun _ _ => True) ((-1)) ?_ ?_ (by first | omega | (simp; omega)) (trivial) ?_) ?_
  · intro b hb
    simp -implicitDefEqProofs only [W2, ↓D2, ↓DC, QX, leaf_some, isNormal, Int.reduceToNat, id_eq, Int.reduceBEq, Int.reduceLE, Int.reduceLT, Nat.reduceAdd, Nat.reduceEqDiff, Nat.reduceLT, Nat.reduceLeDiff, Nat.reduceMul, Nat.reduceSub, reduceIte]
    repeat' (split <;> (rename_i h; (try simp -implicitDefEqProofs only [Bool.not_eq_true', Bool.not_eq_false', decide_eq_true_eq, decide_eq_false_iff_not] at h); (try simp -implicitDefEqProofs only [W2, ↓D2, ↓DC, QX, *, leaf_some, isNormal, Int.reduceToNat, id_eq, Int.reduceBEq, Int.reduceLE, Int.reduceLT, Nat.reduceAdd, Nat.reduceEqDiff, Nat.reduceLT, Nat.reduceLeDiff, Nat.reduceMul, Nat.reduceSub, reduceIte])))
  · intro pre x r b hs' hb
    have hx := (at_row hs' hs).1; have hc := (at_row hs' hs).2.1; have hlt := (at_row hs' hs).2.2.1; have hw1 := (at_row hs' hs).2.2.2.1; have hl9 := (at_row hs' hs).2.2.2.2
    clear hs'
    have c3 := c1 x now age
    generalize hv : holdsAt x now age = v at c3
    have hst : bestStep kind subject now age pre.length x b = .inr (if (x.kind == kind && (x.subject == subject && v)) = true then (if b < x.value then x.value else b) else b) := by rw [← hv]; rfl
    cases h1 : (x.kind == kind) with
    | false =>
      simp -implicitDefEqProofs only [h1, Bool.and_true, Bool.true_and, Bool.false_and, Bool.and_false, Bool.false_eq_true, if_false, if_true] at hst
      simp -implicitDefEqProofs only [W2, ↓D2, ↓DC, QX, enc_Fact, hx, hlt, hw1, c3, h1, hst, GT.gt, keep_29_3, leaf_some, isNormal, Int.reduceToNat, id_eq, Int.reduceBEq, Int.reduceLE, Int.reduceLT, Nat.reduceAdd, Nat.reduceEqDiff, Nat.reduceLT, Nat.reduceLeDiff, Nat.reduceMul, Nat.reduceSub, reduceIte]
      repeat' (split <;> (rename_i h; (try simp -implicitDefEqProofs only [Bool.not_eq_true', Bool.not_eq_false', decide_eq_true_eq, decide_eq_false_iff_not] at h); (try simp -implicitDefEqProofs only [W2, ↓D2, ↓DC, QX, *, enc_Fact, hx, hlt, hw1, c3, h1, hst, GT.gt, keep_29_3, leaf_some, isNormal, Int.reduceToNat, id_eq, Int.reduceBEq, Int.reduceLE, Int.reduceLT, Nat.reduceAdd, Nat.reduceEqDiff, Nat.reduceLT, Nat.reduceLeDiff, Nat.reduceMul, Nat.reduceSub, reduceIte])))
    | true =>
      cases h2 : (x.subject == subject) with
      | false =>
        simp -implicitDefEqProofs only [h1, h2, Bool.and_true, Bool.true_and, Bool.false_and, Bool.and_false, Bool.false_eq_true, if_false, if_true] at hst
        simp -implicitDefEqProofs only [W2, ↓D2, ↓DC, QX, enc_Fact, hx, hlt, hw1, c3, h1, h2, hst, GT.gt, keep_29_3, leaf_some, isNormal, Int.reduceToNat, id_eq, Int.reduceBEq, Int.reduceLE, Int.reduceLT, Nat.reduceAdd, Nat.reduceEqDiff, Nat.reduceLT, Nat.reduceLeDiff, Nat.reduceMul, Nat.reduceSub, reduceIte]
        repeat' (split <;> (rename_i h; (try simp -implicitDefEqProofs only [Bool.not_eq_true', Bool.not_eq_false', decide_eq_true_eq, decide_eq_false_iff_not] at h); (try simp -implicitDefEqProofs only [W2, ↓D2, ↓DC, QX, *, enc_Fact, hx, hlt, hw1, c3, h1, h2, hst, GT.gt, keep_29_3, leaf_some, isNormal, Int.reduceToNat, id_eq, Int.reduceBEq, Int.reduceLE, Int.reduceLT, Nat.reduceAdd, Nat.reduceEqDiff, Nat.reduceLT, Nat.reduceLeDiff, Nat.reduceMul, Nat.reduceSub, reduceIte])))
      | true =>
        cases v with
        | false =>
          simp -implicitDefEqProofs only [h1, h2, Bool.and_true, Bool.true_and, Bool.false_and, Bool.and_false, Bool.false_eq_true, if_false, if_true] at hst
          simp -implicitDefEqProofs only [W2, ↓D2, ↓DC, QX, enc_Fact, hx, hlt, hw1, c3, h1, h2, hst, GT.gt, keep_29_3, leaf_some, isNormal, Int.reduceToNat, id_eq, Int.reduceBEq, Int.reduceLE, Int.reduceLT, Nat.reduceAdd, Nat.reduceEqDiff, Nat.reduceLT, Nat.reduceLeDiff, Nat.reduceMul, Nat.reduceSub, reduceIte]
          repeat' (split <;> (rename_i h; (try simp -implicitDefEqProofs only [Bool.not_eq_true', Bool.not_eq_false', decide_eq_true_eq, decide_eq_false_iff_not] at h); (try simp -implicitDefEqProofs only [W2, ↓D2, ↓DC, QX, *, enc_Fact, hx, hlt, hw1, c3, h1, h2, hst, GT.gt, keep_29_3, leaf_some, isNormal, Int.reduceToNat, id_eq, Int.reduceBEq, Int.reduceLE, Int.reduceLT, Nat.reduceAdd, Nat.reduceEqDiff, Nat.reduceLT, Nat.reduceLeDiff, Nat.reduceMul, Nat.reduceSub, reduceIte])))
        | true =>
          simp -implicitDefEqProofs only [h1, h2, Bool.and_true, Bool.true_and, Bool.false_and, Bool.and_false, Bool.false_eq_true, if_false, if_true] at hst
          simp -implicitDefEqProofs only [W2, ↓D2, ↓DC, QX, enc_Fact, hx, hlt, hw1, c3, h1, h2, hst, GT.gt, keep_29_3, leaf_some, isNormal, Int.reduceToNat, id_eq, Int.reduceBEq, Int.reduceLE, Int.reduceLT, Nat.reduceAdd, Nat.reduceEqDiff, Nat.reduceLT, Nat.reduceLeDiff, Nat.reduceMul, Nat.reduceSub, reduceIte]
          repeat' (split <;> (rename_i h; (try simp -implicitDefEqProofs only [Bool.not_eq_true', Bool.not_eq_false', decide_eq_true_eq, decide_eq_false_iff_not] at h); (try simp -implicitDefEqProofs only [W2, ↓D2, ↓DC, QX, *, enc_Fact, hx, hlt, hw1, c3, h1, h2, hst, GT.gt, keep_29_3, leaf_some, isNormal, Int.reduceToNat, id_eq, Int.reduceBEq, Int.reduceLE, Int.reduceLT, Nat.reduceAdd, Nat.reduceEqDiff, Nat.reduceLT, Nat.reduceLeDiff, Nat.reduceMul, Nat.reduceSub, reduceIte])))
  · simp -implicitDefEqProofs only [firstRegion]; rw [keep_29_3]; simp -implicitDefEqProofs only [W2, ↓D2, ↓DC, Int.reduceToNat, id_eq, Int.reduceBEq, Int.reduceLE, Int.reduceLT, Nat.reduceAdd, Nat.reduceEqDiff, Nat.reduceLT, Nat.reduceLeDiff, Nat.reduceMul, Nat.reduceSub, reduceIte]; first | done | rfl
  · rfl
def factIs (kind subject value now age : Int) (f : Fact) : Bool := f.kind == kind && (f.subject == subject && (f.value == value && holdsAt f now age))
def findFact (s : List Fact) (kind subject value now age : Int) : Int := indexBy (factIs kind subject value now age) 0 s
theorem r_impl_FindFact {fl : Bool} (k : Nat) (hk : 281474976710656 + 10 ≤ k) (s : List Fact) (hs : s.length ≤ 140737488355328) (kind subject value now age : Int) :
    run E noExt k 28 [.sl fl (s.map (Fact.enc fl)), .int .i64 kind, .int .i64 subject, .int .i64 value, .int .i64 now, .int .i64 age] [] = some (.int .i64 (findFact s kind subject value now age), []) := by
  have c0 : ∀ x : Fact, run E noExt (k - 1 - 1) 48 ([x.enc fl] ++ [.cptr [.int .i64 kind], .cptr [.int .i64 subject], .cptr [.int .i64 value], .cptr [.int .i64 now], .cptr [.int .i64 age]]) [] = some (.bool (factIs kind subject value now age x), []) := by
    intro x
    have c1 := r_impl_HoldsAt (fl := fl) (k - 3) (by omega) x now age
    rw [show k - 1 - 1 = (k - 3) + 1 by omega]
    rw [run_succ rfl rfl, body_eq (nt := 30) (fn := Go.Proofs.Try.f48) (by kernel_rfl) rfl rfl rfl rfl rfl rfl rfl rfl]
    generalize hv : holdsAt x now age = v at c1
    have hst : factIs kind subject value now age x = (x.kind == kind && (x.subject == subject && (x.value == value && v))) := by rw [← hv]; rfl
    simp -implicitDefEqProofs only [enc_Fact] at c1 ⊢
    rw [hst]
    cases h1 : (x.kind == kind) <;> cases h2 : (x.subject == subject) <;> cases h3 : (x.value == value) <;> simp -implicitDefEqProofs only [W1, ↓D1, ↓DC, Go.Proofs.Try.f48, c1, h1, h2, h3, Int.reduceToNat, id_eq, Int.reduceBEq, Int.reduceLE, Int.reduceLT, Nat.reduceAdd, Nat.reduceEqDiff, Nat.reduceLT, Nat.reduceLeDiff, Nat.reduceMul, Nat.reduceSub, reduceIte]
  have c2 := r_slices_IndexFunc_Fact (fl := fl) (k - 1) s (by omega) hs 48 [.cptr [.int .i64 kind], .cptr [.int .i64 subject], .cptr [.int .i64 value], .cptr [.int .i64 now], .cptr [.int .i64 age]] (plain_of rfl) (factIs kind subject value now age) (fun x _ => c0 x)
  obtain ⟨k, rfl⟩ : ∃ j, k = j + 1 := ⟨k - 1, by omega⟩
  rw [run_succ rfl rfl, body_eq (nt := 16) (fn := Go.Proofs.Try.f28) (by kernel_rfl) rfl rfl rfl rfl rfl rfl rfl rfl]
  simp -implicitDefEqProofs only [Nat.add_sub_cancel] at c2
  simp -implicitDefEqProofs only [W1, ↓D1, ↓DC, Go.Proofs.Try.f28, c2, Int.reduceToNat, id_eq, Int.reduceBEq, Int.reduceLE, Int.reduceLT, Nat.reduceAdd, Nat.reduceEqDiff, Nat.reduceLT, Nat.reduceLeDiff, Nat.reduceMul, Nat.reduceSub, reduceIte]
  rfl
open Go.Lib
def sortUniq (zs : List Int) : List Int := compact (ascending zs)
theorem strict_ext : ∀ {xs ys : List Int}, xs.Pairwise (· < ·) → ys.Pairwise (· < ·) → (∀ x, x ∈ xs ↔ x ∈ ys) → xs = ys
  | [], [], _, _, _ => rfl
  | [], y :: ys, _, _, h => by have := (h y).2 (by simp); simp at this
  | x :: xs, [], _, _, h => by have := (h x).1 (by simp); simp at this
  | x :: xs, y :: ys, hx, hy, h => by
    rw [List.pairwise_cons] at hx hy
    have h1 : x = y := by
      have a := (h x).1 (by simp)
      have b := (h y).2 (by simp)
      rcases List.mem_cons.1 a with a | a
      · exact a
      · rcases List.mem_cons.1 b with b | b
        · exact b.symm
        · have := hx.1 y b; have := hy.1 x a; omega
    subst h1
    congr 1
    refine strict_ext hx.2 hy.2 fun z => ?_
    constructor
    · intro hz
      rcases List.mem_cons.1 ((h z).1 (by simp [hz])) with e | e
      · have := hx.1 z hz; omega
      · exact e
    · intro hz
      rcases List.mem_cons.1 ((h z).2 (by simp [hz])) with e | e
      · have := hy.1 z hz; omega
      · exact e
theorem upTo_spec {d : Array Int} (hs : ∀ i j, i ≤ j → j < d.size → d[i]! ≤ d[j]!) : ∀ m, m ≤ d.size → (compactUpTo d m).Pairwise (· < ·) ∧ ∀ x, x ∈ compactUpTo d m ↔ ∃ i, i < m ∧ d[i]! = x
  | 0, _ => ⟨by simp [compactUpTo], fun x => by simp [compactUpTo]⟩
  | m + 1, hm => by
    obtain ⟨h1, h2⟩ := upTo_spec hs m (by omega)
    rw [compactUpTo_succ]
    by_cases hk : keeps d m = true
    · rw [if_pos hk]
      refine ⟨?_, fun x => ?_⟩
      · rw [List.pairwise_append]
        refine ⟨h1, by simp, fun a ha b hb => ?_⟩
        obtain rfl := List.mem_singleton.1 hb
        obtain ⟨i, hi, rfl⟩ := (h2 a).1 ha
        have hle := hs i (m - 1) (by omega) (by omega)
        have hle2 := hs (m - 1) m (by omega) (by omega)
        simp -implicitDefEqProofs only [keeps, decide_eq_true_eq] at hk
        have := hk.resolve_left (by omega)
        omega
      · rw [List.mem_append, h2, List.mem_singleton]
        constructor
        · rintro (⟨i, hi, rfl⟩ | rfl)
          · exact ⟨i, by omega, rfl⟩
          · exact ⟨m, by omega, rfl⟩
        · rintro ⟨i, hi, rfl⟩
          by_cases e : i = m
          · exact .inr (by rw [e])
          · exact .inl ⟨i, by omega, rfl⟩
    · rw [if_neg hk, List.append_nil]
      refine ⟨h1, fun x => ?_⟩
      rw [h2]
      simp -implicitDefEqProofs only [keeps, decide_eq_true_eq, not_or, Classical.not_not] at hk
      constructor
      · rintro ⟨i, hi, rfl⟩
        exact ⟨i, by omega, rfl⟩
      · rintro ⟨i, hi, rfl⟩
        by_cases e : i = m
        · exact ⟨m - 1, by omega, by rw [e]; exact hk.2.symm⟩
        · exact ⟨i, by omega, rfl⟩
theorem ascending_sorted (zs : List Int) : (ascending zs).Pairwise (· ≤ ·) := by
  have := List.pairwise_mergeSort (le := fun x y : Int => decide (x ≤ y)) (fun a b c h1 h2 => by simp at *; omega) (fun a b => by simp; omega) zs
  exact this.imp (by simp)
theorem ascending_mem (zs : List Int) (x : Int) : x ∈ ascending zs ↔ x ∈ zs := by
  unfold ascending
  exact List.mem_mergeSort
theorem sortUniq_spec (zs : List Int) : (sortUniq zs).Pairwise (· < ·) ∧ ∀ x, x ∈ sortUniq zs ↔ x ∈ zs := by
  have hs : ∀ i j, i ≤ j → j < (ascending zs).toArray.size → (ascending zs).toArray[i]! ≤ (ascending zs).toArray[j]! := by
    intro i j hij hj
    have hj' : j < (ascending zs).length := by simpa using hj
    rw [getElem!_pos (ascending zs).toArray i (by simp; omega), getElem!_pos (ascending zs).toArray j hj]
    simp -implicitDefEqProofs only [List.getElem_toArray]
    rcases Nat.lt_or_eq_of_le hij with h | rfl
    · exact List.pairwise_iff_getElem.1 (ascending_sorted zs) i j (by omega) hj' h
    · exact Int.le_refl _
  obtain ⟨h1, h2⟩ := upTo_spec hs (ascending zs).length (by simp)
  refine ⟨h1, fun x => ?_⟩
  rw [show sortUniq zs = compactUpTo (ascending zs).toArray (ascending zs).length from rfl, h2, ← ascending_mem zs x]
  constructor
  · rintro ⟨i, hi, rfl⟩
    rw [getElem!_pos (ascending zs).toArray i (by simpa using hi)]
    simp
  · intro hx
    obtain ⟨i, hi, rfl⟩ := List.getElem_of_mem hx
    exact ⟨i, hi, by rw [getElem!_pos (ascending zs).toArray i (by simpa using hi)]; simp⟩
theorem sortUniq_eq {zs ys : List Int} (hy : ys.Pairwise (· < ·)) (h : ∀ x, x ∈ ys ↔ x ∈ zs) : sortUniq zs = ys := by
  obtain ⟨h1, h2⟩ := sortUniq_spec zs
  exact strict_ext h1 hy fun x => (h2 x).trans (h x).symm
end Go.Proofs.Ytggkeechdakccaa.Flat
