/-
Roles under roles, epochs as they should be.
-/
import Derived.Test.YtaojmienjikfbaaGreatDoorEqH
import Derived.Test.YtaojmienjikfbaaGreatDoorEqR
set_option linter.unusedVariables false
set_option linter.unusedSimpArgs false
set_option maxRecDepth 10000
namespace Go.Proofs.YtaojmienjikfbaaGreatDoor.Flat
theorem r_impl_isRole (k : Nat) (hk : 281474976710656 + 2 ≤ k) (z : Int) : run E noExt k 154 [.int .i64 z] [] = some (.bool (inR z 0 5), []) := by
  obtain ⟨k, rfl⟩ : ∃ j, k = j + 1 := ⟨k - 1, by omega⟩
  rw [run_succ rfl rfl, body_eq (nt := 5) (fn := Go.Proofs.Tryz.f154) (by kernel_rfl) rfl rfl rfl rfl rfl rfl rfl rfl]
  have c_impl_InRange := r_impl_InRange k (by omega)
  simp -implicitDefEqProofs only [W1, ↓D1, ↓DC, QX, Go.Proofs.Tryz.f154, c_impl_InRange, Int.reduceToNat, id_eq, Int.reduceBEq, Int.reduceLE, Int.reduceLT, Nat.reduceAdd, Nat.reduceEqDiff, Nat.reduceLT, Nat.reduceLeDiff, Nat.reduceMul, Nat.reduceSub, reduceIte]
  repeat' (split <;> (rename_i h; (try simp -implicitDefEqProofs only [Bool.not_eq_true', Bool.not_eq_false', decide_eq_true_eq, decide_eq_false_iff_not] at h); (try simp -implicitDefEqProofs only [W1, ↓D1, ↓DC, QX, *, c_impl_InRange, Int.reduceToNat, id_eq, Int.reduceBEq, Int.reduceLE, Int.reduceLT, Nat.reduceAdd, Nat.reduceEqDiff, Nat.reduceLT, Nat.reduceLeDiff, Nat.reduceMul, Nat.reduceSub, reduceIte])))
def hasStep (x : Int) (_ : Nat) (c : Int) (b : Unit) : Sum Bool Unit := if (c == x) = true then .inl true else .inr b
theorem hasLoop (x : Int) (s : List Int) (i : Nat) (b : Unit) : loopL (hasStep x) (fun _ => false) i s b = s.any (fun c => c == x) := by
  induction s generalizing i with
  | nil => rfl
  | cons c r ih => simp -implicitDefEqProofs only [loopL, hasStep, List.any_cons]; cases h : c == x <;> simp [ih]
theorem r_spec_l13Has {fl : Bool} (k : Nat) (hk : 281474976710656 + 1 ≤ k) (s : List Int) (hs : s.length ≤ 140737488355328) (x : Int) : run E noExt k 134 [.sl fl (s.map (AV.int .i64)), .int .i64 x] [] = some (.bool (s.any (fun c => c == x)), []) := by
  obtain ⟨k, rfl⟩ : ∃ j, k = j + 1 := ⟨k - 1, by omega⟩
  rw [run_succ rfl rfl, body_eq (nt := 18) (fn := Go.Proofs.Tryz.f134) (by kernel_rfl) rfl rfl rfl rfl rfl rfl rfl rfl]
  simp -implicitDefEqProofs only [W1, ↓D1, ↓DC, Go.Proofs.Tryz.f134, Int.reduceToNat, id_eq, Int.reduceBEq, Int.reduceLE, Int.reduceLT, Nat.reduceAdd, Nat.reduceEqDiff, Nat.reduceLT, Nat.reduceLeDiff, Nat.reduceMul, Nat.reduceSub, reduceIte]
  rw [ev_loop]
  refine Eq.trans (loop_list (Q := fun g x => thenEnd E.P [] _ 0 (thenEv E _ _ _ _ _ (outOf 0 x)) = some (.bool g, [])) (s) (hasStep x) (fun _ => false)
    (fun i b => { sl := [(0, .sl fl (s.map (AV.int .i64))), (1, .int .i64 x), (5, .int .i64 (i : Nat))], bx := [], nx := 0, nt := 18 }) (fun _ _ => True) (()) ?_ ?_ (by first | omega | (simp; omega)) (trivial) ?_) ?_
  · intro b hb
    simp -implicitDefEqProofs only [W2, ↓D2, ↓DC, QX, leaf_some, isNormal, Int.reduceToNat, id_eq, Int.reduceBEq, Int.reduceLE, Int.reduceLT, Nat.reduceAdd, Nat.reduceEqDiff, Nat.reduceLT, Nat.reduceLeDiff, Nat.reduceMul, Nat.reduceSub, reduceIte]
    repeat' (split <;> (rename_i h; (try simp -implicitDefEqProofs only [Bool.not_eq_true', Bool.not_eq_false', decide_eq_true_eq, decide_eq_false_iff_not] at h); (try simp -implicitDefEqProofs only [W2, ↓D2, ↓DC, QX, *, leaf_some, isNormal, Int.reduceToNat, id_eq, Int.reduceBEq, Int.reduceLE, Int.reduceLT, Nat.reduceAdd, Nat.reduceEqDiff, Nat.reduceLT, Nat.reduceLeDiff, Nat.reduceMul, Nat.reduceSub, reduceIte])))
  · intro pre c r b hs' hb
    have hx := (at_row hs' hs).1; have hc := (at_row hs' hs).2.1; have hlt := (at_row hs' hs).2.2.1; have hw1 := (at_row hs' hs).2.2.2.1; have hl9 := (at_row hs' hs).2.2.2.2
    clear hs'
    simp -implicitDefEqProofs only [W2, ↓D2, ↓DC, QX, hx, hlt, hw1, hasStep, keep_134_2, leaf_some, isNormal, Int.reduceToNat, id_eq, Int.reduceBEq, Int.reduceLE, Int.reduceLT, Nat.reduceAdd, Nat.reduceEqDiff, Nat.reduceLT, Nat.reduceLeDiff, Nat.reduceMul, Nat.reduceSub, reduceIte]
    repeat' (split <;> (rename_i h; (try simp -implicitDefEqProofs only [Bool.not_eq_true', Bool.not_eq_false', decide_eq_true_eq, decide_eq_false_iff_not] at h); (try simp -implicitDefEqProofs only [W2, ↓D2, ↓DC, QX, *, hx, hlt, hw1, hasStep, keep_134_2, leaf_some, isNormal, Int.reduceToNat, id_eq, Int.reduceBEq, Int.reduceLE, Int.reduceLT, Nat.reduceAdd, Nat.reduceEqDiff, Nat.reduceLT, Nat.reduceLeDiff, Nat.reduceMul, Nat.reduceSub, reduceIte])))
  · simp -implicitDefEqProofs only [firstRegion]; rw [keep_134_2]; simp -implicitDefEqProofs only [W2, ↓D2, ↓DC, Int.reduceToNat, id_eq, Int.reduceBEq, Int.reduceLE, Int.reduceLT, Nat.reduceAdd, Nat.reduceEqDiff, Nat.reduceLT, Nat.reduceLeDiff, Nat.reduceMul, Nat.reduceSub, reduceIte]; first | done | rfl
  · rw [hasLoop]
theorem rowss_bools (m : List Bool) : AV.rowss (m.map AV.bool) = [] := by
  induction m with
  | nil => rfl
  | cons b m ih => simpa [AV.rowss, AV.rows] using ih
theorem boxess_bools (m : List Bool) : AV.boxess (m.map AV.bool) = [] := by
  induction m with
  | nil => rfl
  | cons b m ih => simpa [AV.boxess, AV.boxes] using ih
theorem mapOs_bools {f : Nat → Bool → Nat → Nat → List AV → AV} {g : Nat → Nat → AV} {h : Bool → Nat → Bool → Nat → Nat → List AV → Nat → Nat → AV} {z : Unit → AV} (m : List Bool) : AV.mapOs f g h z (m.map AV.bool) = m.map AV.bool := by
  induction m with
  | nil => rfl
  | cons b m ih => simp [AV.mapOs, AV.mapO, ih]
theorem maps_bools {f : Nat → Bool → Nat → Nat → List AV → AV} {g : Nat → Nat → AV} {h : Bool → Nat → Bool → Nat → Nat → List AV → Nat → Nat → AV} {z : Unit → AV} (m : List Bool) : List.map (fun v => AV.mapO f g h z v) (m.map AV.bool) = m.map AV.bool := by
  have := mapOs_bools (f := f) (g := g) (h := h) (z := z) m
  rw [AV.mapOs_eq] at this
  exact this
theorem ren_bools {g b : List Nat} (m : List Bool) : List.map (renameB g b) (m.map AV.bool) = m.map AV.bool := maps_bools m
theorem allRows_bools {p : Nat → Bool} (m : List Bool) : List.all (m.map AV.bool) (fun v => List.all v.rows p) = true := by
  induction m with
  | nil => rfl
  | cons b m ih => simp [AV.rows]
theorem plain_bools (m : List Bool) : (m.map AV.bool).all plainC = true := by
  induction m with
  | nil => rfl
  | cons b m ih => simp [plainC]
theorem cells_bools (m : List Bool) : (m.map AV.bool).all AV.isCell = true := by
  induction m with
  | nil => rfl
  | cons b m ih => simp [AV.isCell]
theorem head_bools {m : List Bool} {i : Nat} (h : i < m.length) : (List.drop i (m.map AV.bool)).head? = some (.bool ((m[i]?).getD false)) := by
  rw [List.head?_drop, List.getElem?_map, List.getElem?_eq_getElem h]
  rfl
theorem store_bools {m : List Bool} {i : Nat} {b : Bool} (h : i < m.length) : List.take i (m.map AV.bool) ++ [.bool b] ++ List.drop (i + 1) (m.map AV.bool) = (m.set i b).map AV.bool := by
  rw [← List.map_take, ← List.map_drop, List.set_eq_take_append_cons_drop, if_pos h]
  simp
def pairOf (x : Includes) : Int × Int := (x.greater, x.lesser)
def belowStep (a : Int) (_ : Nat) (x : Includes) (p : List Bool × List Int) : Sum (List Bool × List Int) (List Bool × List Int) := .inr (Roles.stepB a p (pairOf x))
theorem belowLoop (a : Int) : ∀ (s : List Includes) (i : Nat) (p : List Bool × List Int), loopL (belowStep a) id i s p = Roles.roundB (s.map pairOf) a p
  | [], i, p => rfl
  | x :: r, i, p => by simp -implicitDefEqProofs only [loopL, belowStep]; rw [belowLoop a r]; rfl
theorem r_impl_below {fl : Bool} (k : Nat) (hk : 281474976710656 + 3 ≤ k) (l : List Includes) (hl : l.length ≤ 140737488355328) (r : Int) :
    run E noExt k 155 [.sl fl (l.map (Includes.enc fl)), .int .i64 r] [] = some (.agg ((Roles.ends (l.map pairOf) (List.replicate 6 false, [r])).map AV.bool), []) := by
  have c0 := r_impl_isRole (k - 1) (by omega)
  obtain ⟨k, rfl⟩ : ∃ j, k = j + 1 := ⟨k - 1, by omega⟩
  rw [run_succ rfl rfl, body_eq (nt := 53) (fn := Go.Proofs.Tryz.f155) (by kernel_rfl) rfl rfl rfl rfl rfl rfl rfl rfl]
  simp -implicitDefEqProofs only [Nat.add_sub_cancel] at c0
  simp -implicitDefEqProofs only [W3, ↓D3, ↓DA, ↓DP, ↓DC, Go.Proofs.Tryz.f155, Int.reduceToNat, id_eq, Int.reduceBEq, Int.reduceLE, Int.reduceLT, SH, Nat.reduceAdd, Nat.reduceEqDiff, Nat.reduceLT, Nat.reduceLeDiff, Nat.reduceMul, Nat.reduceSub, reduceIte]
  rw [ev_loop]
  refine Eq.trans (loop_while (Q := fun (g : List Bool) x => thenEnd E.P [] _ 0 (thenEv E _ _ _ _ _ (outOf 0 x)) = some (.agg (g.map AV.bool), []))
    (fun p => match p.2 with | [] => none | a :: t => some (Roles.roundB (l.map pairOf) a (p.1, t))) (Roles.ends (l.map pairOf))
    (fun p => { sl := [(0, .sl fl (l.map (Includes.enc fl))), (4, .ptr 0 0), (5, .ptr 1 0), (6, .own 0 false 3 1 (p.2.map (AV.int .i64)))], bx := [(0, [.bool false, .bool false, .bool false, .bool false, .bool false, .bool false]), (1, p.1.map AV.bool)], nx := 3, nt := 53 })
    (fun p => p.1.length = 6 ∧ Roles.left p ≤ 7) Roles.left (List.replicate 6 false, [r]) ?_ ?_ ?_ ⟨rfl, ?_⟩ ?_) ?_
  · rintro ⟨m, t⟩ ⟨h1, h2⟩
    simp only at h1
    have ht : List.take 6 (List.map AV.bool m) = List.map AV.bool m := List.take_of_length_le (by simp [h1])
    cases t with
    | nil =>
      simp -implicitDefEqProofs only [W2, ↓D2, ↓DC, QX, h1, ht, cells_bools, Nat.min_self, Roles.ends_nil, plain_bools, leaf_some, isNormal, Int.reduceToNat, id_eq, Int.reduceBEq, Int.reduceLE, Int.reduceLT, Nat.reduceAdd, Nat.reduceEqDiff, Nat.reduceLT, Nat.reduceLeDiff, Nat.reduceMul, Nat.reduceSub, reduceIte]
      repeat' (split <;> (rename_i h; (try simp -implicitDefEqProofs only [Bool.not_eq_true', Bool.not_eq_false', decide_eq_true_eq, decide_eq_false_iff_not] at h); (try simp -implicitDefEqProofs only [W2, ↓D2, ↓DC, QX, *, h1, ht, cells_bools, Nat.min_self, Roles.ends_nil, plain_bools, leaf_some, isNormal, Int.reduceToNat, id_eq, Int.reduceBEq, Int.reduceLE, Int.reduceLT, Nat.reduceAdd, Nat.reduceEqDiff, Nat.reduceLT, Nat.reduceLeDiff, Nat.reduceMul, Nat.reduceSub, reduceIte])))
    | cons a t =>
      have hp : ((0 : Int) < ((t.length + 1 : Nat) : Int)) = True := by simp
      have hq : ((1 : Int) ≤ ((t.length + 1 : Nat) : Int)) = True := by simp; omega
      simp -implicitDefEqProofs only [W4, ↓D4, ↓DA, ↓DP, ↓DC, QX, h1, hp, hq, Int.reduceToNat, SH, dedup, nodupB, idx, AV.rows, AV.rowss, AV.mapO, AV.mapOs, leaf_some, isNormal, id_eq, Int.reduceBEq, Int.reduceLE, Int.reduceLT, Nat.reduceAdd, Nat.reduceEqDiff, Nat.reduceLT, Nat.reduceLeDiff, Nat.reduceMul, Nat.reduceSub, reduceIte]
      repeat' (split <;> (rename_i h; (try simp -implicitDefEqProofs only [Bool.not_eq_true', Bool.not_eq_false', decide_eq_true_eq, decide_eq_false_iff_not] at h); (try simp -implicitDefEqProofs only [W4, ↓D4, ↓DA, ↓DP, ↓DC, QX, *, h1, hp, hq, Int.reduceToNat, SH, dedup, nodupB, idx, AV.rows, AV.rowss, AV.mapO, AV.mapOs, leaf_some, isNormal, id_eq, Int.reduceBEq, Int.reduceLE, Int.reduceLT, Nat.reduceAdd, Nat.reduceEqDiff, Nat.reduceLT, Nat.reduceLeDiff, Nat.reduceMul, Nat.reduceSub, reduceIte])))
      rw [ev_loop]
      refine loop_list (Q := fun g z => g = Roles.roundB (l.map pairOf) a (m, t) → Leaf (outOf 1 (outOf 2 z)) _) l (belowStep a) id
        (fun i p => { sl := [(0, .sl fl (l.map (Includes.enc fl))), (4, .ptr 0 0), (5, .ptr 1 0), (6, .own 0 false 3 1 (p.2.map (AV.int .i64))), (7, .int .i64 a), (21, .sl fl (l.map (Includes.enc fl))), (22, .int .i64 (l.length : Nat)), (23, .int .i64 (i : Nat))], bx := [(0, [.bool false, .bool false, .bool false, .bool false, .bool false, .bool false]), (1, p.1.map AV.bool)], nx := 3, nt := 53 })
        (fun _ p => p.1.length = 6 ∧ p.2.length ≤ Roles.cnt p.1 + 7) (m, t) ?_ ?_ (by omega) ⟨h1, ?_⟩ ?_ (belowLoop a l 0 (m, t))
      · rintro ⟨m', t'⟩ ⟨h3, h4⟩
        simp only at h3 h4
        simp -implicitDefEqProofs only [W2, ↓D2, ↓DC, QX, h3, rowss_bools, boxess_bools, allRows_bools, maps_bools, mapOs_bools, ren_bools, id_eq, keep_155_3, leaf_some, isNormal, Int.reduceToNat, Int.reduceBEq, Int.reduceLE, Int.reduceLT, Nat.reduceAdd, Nat.reduceEqDiff, Nat.reduceLT, Nat.reduceLeDiff, Nat.reduceMul, Nat.reduceSub, reduceIte]
        repeat' (split <;> (rename_i h; (try simp -implicitDefEqProofs only [Bool.not_eq_true', Bool.not_eq_false', decide_eq_true_eq, decide_eq_false_iff_not] at h); (try simp -implicitDefEqProofs only [W2, ↓D2, ↓DC, QX, *, h3, rowss_bools, boxess_bools, allRows_bools, maps_bools, mapOs_bools, ren_bools, id_eq, keep_155_3, leaf_some, isNormal, Int.reduceToNat, Int.reduceBEq, Int.reduceLE, Int.reduceLT, Nat.reduceAdd, Nat.reduceEqDiff, Nat.reduceLT, Nat.reduceLeDiff, Nat.reduceMul, Nat.reduceSub, reduceIte])))
        intro he
        rw [← he]
      · rintro pre x r' ⟨m', t'⟩ hs' ⟨h3, h4⟩
        simp only at h3 h4
        have hx := (at_row hs' hl).1; have hc := (at_row hs' hl).2.1; have hlt := (at_row hs' hl).2.2.1; have hw1 := (at_row hs' hl).2.2.2.1; have hl9 := (at_row hs' hl).2.2.2.2
        clear hs'
        have hc1 := Roles.cnt_le h3
        by_cases e1 : (x.greater == a) = true
        · by_cases e2 : inR x.lesser 0 5 = true
          · have e3 : 0 ≤ x.lesser ∧ x.lesser < 6 := by simp [inR] at e2; omega
            have e4 : x.lesser.toNat < m'.length := by omega
            have e5 := head_bools e4
            have e6 := store_bools (b := true) e4
            have e7 : x.lesser.toNat ≤ 5 := by omega
            have n6 : ((6 : Nat) : Int) = 6 := rfl
            have e8 : Roles.isR x.lesser = true := e2
            generalize hv : (m'[x.lesser.toNat]?).getD false = v at e5
            cases v with
            | false =>
              have hst : Roles.stepB a (m', t') (pairOf x) = (m'.set x.lesser.toNat true, t' ++ [x.lesser]) := by
                simp -implicitDefEqProofs only [Roles.stepB, pairOf, e1, e8, hv, Bool.not_false, Bool.and_self, if_true]
              have hpl : plains [AV.int IntKind.i64 x.lesser] = true := rfl
              have hA : (t'.length + 1) * 8 ≤ 140737488355328 := by omega
              have hB : t'.length ≤ 9223372036854775806 := by omega
              have hn := Roles.stepB_cnt (a := a) (p := (m', t')) (x := pairOf x) h3
              rw [hst] at hn
              have hn2 : (t' ++ [x.lesser]).length ≤ Roles.cnt (m'.set x.lesser.toNat true) + 7 := by simp only at hn; omega
              simp -implicitDefEqProofs only [W3, ↓D3, ↓DA, ↓DP, ↓DC, QX, enc_Includes, hx, hlt, hw1, c0, e1, e2, e3, e5, e6, e7, n6, h3, hst, hpl, hA, hB, hn2, belowStep, List.map_append, List.length_set, Nat.mul_one, rowss_bools, boxess_bools, allRows_bools, maps_bools, mapOs_bools, ren_bools, SH, keep_155_7, leaf_some, isNormal, Int.reduceToNat, id_eq, Int.reduceBEq, Int.reduceLE, Int.reduceLT, Nat.reduceAdd, Nat.reduceEqDiff, Nat.reduceLT, Nat.reduceLeDiff, Nat.reduceMul, Nat.reduceSub, reduceIte]
              repeat' (split <;> (rename_i h; (try simp -implicitDefEqProofs only [Bool.not_eq_true', Bool.not_eq_false', decide_eq_true_eq, decide_eq_false_iff_not] at h); (try simp -implicitDefEqProofs only [W3, ↓D3, ↓DA, ↓DP, ↓DC, QX, *, enc_Includes, hx, hlt, hw1, c0, e1, e2, e3, e5, e6, e7, n6, h3, hst, hpl, hA, hB, hn2, belowStep, List.map_append, List.length_set, Nat.mul_one, rowss_bools, boxess_bools, allRows_bools, maps_bools, mapOs_bools, ren_bools, SH, keep_155_7, leaf_some, isNormal, Int.reduceToNat, id_eq, Int.reduceBEq, Int.reduceLE, Int.reduceLT, Nat.reduceAdd, Nat.reduceEqDiff, Nat.reduceLT, Nat.reduceLeDiff, Nat.reduceMul, Nat.reduceSub, reduceIte])))
            | true =>
              have hst : Roles.stepB a (m', t') (pairOf x) = (m', t') := by
                simp -implicitDefEqProofs only [Roles.stepB, pairOf, e1, e8, hv, Bool.not_true, Bool.and_false, Bool.false_eq_true, if_false]
              simp -implicitDefEqProofs only [W3, ↓D3, ↓DA, ↓DP, ↓DC, QX, enc_Includes, hx, hlt, hw1, c0, e1, e2, e3, e5, n6, h3, h4, hst, belowStep, Nat.mul_one, rowss_bools, boxess_bools, allRows_bools, maps_bools, mapOs_bools, ren_bools, SH, keep_155_7, leaf_some, isNormal, Int.reduceToNat, id_eq, Int.reduceBEq, Int.reduceLE, Int.reduceLT, Nat.reduceAdd, Nat.reduceEqDiff, Nat.reduceLT, Nat.reduceLeDiff, Nat.reduceMul, Nat.reduceSub, reduceIte]
              repeat' (split <;> (rename_i h; (try simp -implicitDefEqProofs only [Bool.not_eq_true', Bool.not_eq_false', decide_eq_true_eq, decide_eq_false_iff_not] at h); (try simp -implicitDefEqProofs only [W3, ↓D3, ↓DA, ↓DP, ↓DC, QX, *, enc_Includes, hx, hlt, hw1, c0, e1, e2, e3, e5, n6, h3, h4, hst, belowStep, Nat.mul_one, rowss_bools, boxess_bools, allRows_bools, maps_bools, mapOs_bools, ren_bools, SH, keep_155_7, leaf_some, isNormal, Int.reduceToNat, id_eq, Int.reduceBEq, Int.reduceLE, Int.reduceLT, Nat.reduceAdd, Nat.reduceEqDiff, Nat.reduceLT, Nat.reduceLeDiff, Nat.reduceMul, Nat.reduceSub, reduceIte])))
          · have e2' : inR x.lesser 0 5 = false := by simpa using e2
            have e8 : Roles.isR x.lesser = false := e2'
            have hst : Roles.stepB a (m', t') (pairOf x) = (m', t') := by
              simp -implicitDefEqProofs only [Roles.stepB, pairOf, e8, Bool.false_and, Bool.and_false, Bool.false_eq_true, if_false]
            simp -implicitDefEqProofs only [W3, ↓D3, ↓DA, ↓DP, ↓DC, QX, enc_Includes, hx, hlt, hw1, c0, e1, e2', h3, h4, hst, belowStep, rowss_bools, boxess_bools, allRows_bools, maps_bools, mapOs_bools, ren_bools, SH, keep_155_7, leaf_some, isNormal, Int.reduceToNat, id_eq, Int.reduceBEq, Int.reduceLE, Int.reduceLT, Nat.reduceAdd, Nat.reduceEqDiff, Nat.reduceLT, Nat.reduceLeDiff, Nat.reduceMul, Nat.reduceSub, reduceIte]
            repeat' (split <;> (rename_i h; (try simp -implicitDefEqProofs only [Bool.not_eq_true', Bool.not_eq_false', decide_eq_true_eq, decide_eq_false_iff_not] at h); (try simp -implicitDefEqProofs only [W3, ↓D3, ↓DA, ↓DP, ↓DC, QX, *, enc_Includes, hx, hlt, hw1, c0, e1, e2', h3, h4, hst, belowStep, rowss_bools, boxess_bools, allRows_bools, maps_bools, mapOs_bools, ren_bools, SH, keep_155_7, leaf_some, isNormal, Int.reduceToNat, id_eq, Int.reduceBEq, Int.reduceLE, Int.reduceLT, Nat.reduceAdd, Nat.reduceEqDiff, Nat.reduceLT, Nat.reduceLeDiff, Nat.reduceMul, Nat.reduceSub, reduceIte])))
        · have e1' : (x.greater == a) = false := by simpa using e1
          have hst : Roles.stepB a (m', t') (pairOf x) = (m', t') := by
            simp -implicitDefEqProofs only [Roles.stepB, pairOf, e1', Bool.false_and, Bool.false_eq_true, if_false]
          simp -implicitDefEqProofs only [W3, ↓D3, ↓DA, ↓DP, ↓DC, QX, enc_Includes, hx, hlt, hw1, c0, e1', h3, h4, hst, belowStep, rowss_bools, boxess_bools, allRows_bools, maps_bools, mapOs_bools, ren_bools, SH, keep_155_7, leaf_some, isNormal, Int.reduceToNat, id_eq, Int.reduceBEq, Int.reduceLE, Int.reduceLT, Nat.reduceAdd, Nat.reduceEqDiff, Nat.reduceLT, Nat.reduceLeDiff, Nat.reduceMul, Nat.reduceSub, reduceIte]
          repeat' (split <;> (rename_i h; (try simp -implicitDefEqProofs only [Bool.not_eq_true', Bool.not_eq_false', decide_eq_true_eq, decide_eq_false_iff_not] at h); (try simp -implicitDefEqProofs only [W3, ↓D3, ↓DA, ↓DP, ↓DC, QX, *, enc_Includes, hx, hlt, hw1, c0, e1', h3, h4, hst, belowStep, rowss_bools, boxess_bools, allRows_bools, maps_bools, mapOs_bools, ren_bools, SH, keep_155_7, leaf_some, isNormal, Int.reduceToNat, id_eq, Int.reduceBEq, Int.reduceLE, Int.reduceLT, Nat.reduceAdd, Nat.reduceEqDiff, Nat.reduceLT, Nat.reduceLeDiff, Nat.reduceMul, Nat.reduceSub, reduceIte])))
      · have h5 := Roles.cnt_le h1
        simp -implicitDefEqProofs only [Roles.left, List.length_cons] at h2
        show t.length ≤ _
        omega
      · simp -implicitDefEqProofs only [firstRegion]
        rw [keep_155_7]
        simp -implicitDefEqProofs only [W3, ↓D3, ↓DA, ↓DP, ↓DC, h1, rowss_bools, boxess_bools, allRows_bools, maps_bools, mapOs_bools, ren_bools, Int.reduceToNat, id_eq, Int.reduceBEq, Int.reduceLE, Int.reduceLT, SH, Nat.reduceAdd, Nat.reduceEqDiff, Nat.reduceLT, Nat.reduceLeDiff, Nat.reduceMul, Nat.reduceSub, reduceIte]
  · rintro ⟨m, t⟩ b' ⟨h1, h2⟩ hn
    cases t with
    | nil => simp at hn
    | cons a t =>
      simp -implicitDefEqProofs only [Option.some.injEq] at hn
      subst hn
      have hl6 : m.length = 6 := h1
      have h3 := Roles.round_left (l := l.map pairOf) (a := a) (t := t) hl6
      refine ⟨⟨by rw [Roles.roundB_len]; exact hl6, by omega⟩, by omega, Roles.ends_cons hl6⟩
  · have : Roles.left (List.replicate 6 false, [r]) = 7 := rfl
    omega
  · have : Roles.left (List.replicate 6 false, [r]) = 7 := rfl
    omega
  · simp -implicitDefEqProofs only [firstRegion]
    rw [keep_155_3]
    simp -implicitDefEqProofs only [W3, ↓D3, ↓DA, ↓DP, ↓DC, rowss_bools, boxess_bools, allRows_bools, maps_bools, mapOs_bools, ren_bools, Int.reduceToNat, id_eq, Int.reduceBEq, Int.reduceLE, Int.reduceLT, SH, Nat.reduceAdd, Nat.reduceEqDiff, Nat.reduceLT, Nat.reduceLeDiff, Nat.reduceMul, Nat.reduceSub, reduceIte]
    rfl
  · rfl
theorem idx_bools {m : List Bool} {i : Nat} (h : i < m.length) : (m.map AV.bool)[i]? = some (.bool ((m[i]?).getD false)) := by
  rw [List.getElem?_map, List.getElem?_eq_getElem h]
  rfl
theorem set_bools {m : List Bool} {i : Nat} {b : Bool} : (m.map AV.bool).set i (.bool b) = (m.set i b).map AV.bool := by rw [List.map_set]
def under (m : List Bool) (n : Nat) : List Int := ((List.range n).filter fun i => (m[i]?).getD false).map Int.ofNat
noncomputable def rolesUnder (l : List Includes) (r : Int) : List Int := if inR r 0 5 = true then under (Roles.marks (l.map pairOf) r.toNat) 6 else []
theorem under_succ {m : List Bool} {n : Nat} : under m (n + 1) = if (m[n]?).getD false = true then under m n ++ [(n : Int)] else under m n := by
  unfold under
  rw [List.range_succ, List.filter_append]
  by_cases h : (m[n]?).getD false = true
  · rw [if_pos h]; simp [h]
  · rw [if_neg h]; simp [h]
theorem under_len (m : List Bool) (n : Nat) : (under m n).length ≤ n := by
  unfold under
  rw [List.length_map]
  exact Nat.le_trans (List.length_filter_le _ _) (by simp)
def passStep (_ : Nat) (x : Includes) (m : List Bool) : Sum (List Bool) (List Bool) := .inr (Roles.stepS m (pairOf x))
theorem passLoop : ∀ (s : List Includes) (i : Nat) (m : List Bool), loopL passStep id i s m = Roles.pass (s.map pairOf) m
  | [], i, m => rfl
  | x :: r, i, m => by simp -implicitDefEqProofs only [loopL, passStep]; rw [passLoop r]; rfl
def passesStep (l : List (Int × Int)) (_ : Nat) (_ : Nat) (m : List Bool) : Sum (List Bool) (List Bool) := .inr (Roles.pass l m)
theorem passesLoop (l : List (Int × Int)) : ∀ (s : List Nat) (i : Nat) (m : List Bool), loopL (passesStep l) id i s m = Roles.passes l s.length m
  | [], i, m => rfl
  | x :: r, i, m => by simp -implicitDefEqProofs only [loopL, passesStep, List.length_cons]; rw [passesLoop l r]; rfl
def goStep (_ : Nat) (_ : Nat) (_ : Unit) : Sum Unit Unit := .inr ()
theorem r_spec_RolesUnder {fl : Bool} (k : Nat) (hk : 281474976710656 + 3 ≤ k) (l : List Includes) (hl : l.length ≤ 140737488355328) (r : Int) :
    run E noExt k 151 [.sl fl (l.map (Includes.enc fl)), .int .i64 r] [] = some (.own 0 false 3 1 ((rolesUnder l r).map (AV.int .i64)), []) := by
  have c0 := r_spec_l1In (k - 1) (by omega)
  obtain ⟨k, rfl⟩ : ∃ j, k = j + 1 := ⟨k - 1, by omega⟩
  rw [run_succ rfl rfl, body_eq (nt := 73) (fn := Go.Proofs.Tryz.f151) (by kernel_rfl) rfl rfl rfl rfl rfl rfl rfl rfl]
  simp -implicitDefEqProofs only [Nat.add_sub_cancel] at c0
  by_cases hr : inR r 0 5 = true
  · have hr2 : 0 ≤ r ∧ r < 6 := by simp [inR] at hr; omega
    have hr3 : r.toNat ≤ 5 := by omega
    simp -implicitDefEqProofs only [rolesUnder, hr, if_true]
    have hz : zeroElem { tag := Tag.bool, agg := false, size := 1, bytes := 1, zero := some (Value.bool false), elem := 0, fields := [], eqs := none } = some (.bool false) := rfl
    obtain ⟨m0, hm0, hm6⟩ : ∃ m0 : List Bool, m0 = List.replicate 6 false ∧ m0.length = 6 := ⟨_, rfl, rfl⟩
    have hrep : List.replicate 6 (AV.bool false) = m0.map AV.bool := by rw [hm0]; rfl
    have hget := idx_bools (m := m0) (i := r.toNat) (by omega)
    have n6 : ((6 : Nat) : Int) = 6 := rfl
    have hmk : Roles.marks (l.map pairOf) r.toNat = Roles.passes (l.map pairOf) 6 (m0.set r.toNat true) := by rw [hm0]; rfl
    rw [hmk]
    simp -implicitDefEqProofs only [W3, ↓D3, ↓DA, ↓DP, ↓DC, Go.Proofs.Tryz.f151, hr, hr2, hr3, c0, ifEv_bool, evMakeSlice, hz, hrep, hm6, n6, hget, set_bools, Int.reduceToNat, id_eq, Int.reduceBEq, Int.reduceLE, Int.reduceLT, SH, Nat.reduceAdd, Nat.reduceEqDiff, Nat.reduceLT, Nat.reduceLeDiff, Nat.reduceMul, Nat.reduceSub, reduceIte]
    generalize hm1 : m0.set r.toNat true = m1
    have hl1 : m1.length = 6 := by rw [← hm1, List.length_set]; exact hm6
    rw [ev_loop]
    refine loop_list (Q := fun g z => g = Roles.passes (l.map pairOf) 6 m1 → thenEnd E.P [] _ 0 (thenEv E _ _ _ _ _ (outOf 0 z)) = _) (List.range 6) (passesStep (l.map pairOf)) id
      (fun i m => { sl := [(0, .sl fl (l.map (Includes.enc fl))), (5, .own 0 false 3 1 []), (6, .own 1 false 4 1 (m.map AV.bool)), (7, .int .i64 (i : Nat))], bx := [], nx := 2, nt := 73 })
      (fun _ m => m.length = 6) m1 ?_ ?_ (by simp; omega) hl1 ?_ (passesLoop _ _ _ _)
    · intro m hm
      have h6 : decide (((List.range 6).length : Int) ≤ 5) = false := rfl
      simp -implicitDefEqProofs only [W1, ↓D1, ↓DC, h6, leaf_some, isNormal, ifEv_bool, Int.reduceToNat, id_eq, Int.reduceBEq, Int.reduceLE, Int.reduceLT, Nat.reduceAdd, Nat.reduceEqDiff, Nat.reduceLT, Nat.reduceLeDiff, Nat.reduceMul, Nat.reduceSub, reduceIte]
      intro he
      rw [← he]
      rw [ev_loop]
      refine Eq.trans (loop_list (Q := fun (_ : Unit) z => thenEnd E.P [] _ 0 (thenEv E _ _ _ _ _ (outOf 4 z)) = some (.own 0 false 3 1 ((under m 6).map (AV.int .i64)), [])) (List.range 6) goStep id
        (fun i _ => { sl := [(5, .own 0 false 3 1 ((under m i).map (AV.int .i64))), (6, .own 1 false 4 1 (m.map AV.bool)), (9, .int .i64 (i : Nat))], bx := [], nx := 2, nt := 73 })
        (fun _ _ => True) () ?_ ?_ (by simp; omega) trivial ?_) ?_
      · intro _ _
        have h6 : decide (((List.range 6).length : Int) ≤ 5) = false := rfl
        have h7 : (List.range 6).length = 6 := rfl
        simp -implicitDefEqProofs only [W3, ↓D3, ↓DA, ↓DP, ↓DC, h7, n6, leaf_some, isNormal, ifEv_bool, Int.reduceToNat, id_eq, Int.reduceBEq, Int.reduceLE, Int.reduceLT, SH, Nat.reduceAdd, Nat.reduceEqDiff, Nat.reduceLT, Nat.reduceLeDiff, Nat.reduceMul, Nat.reduceSub, reduceIte]
      · intro pre x r' _ hs' _
        have hp5 : pre.length ≤ 5 := by have := congrArg List.length hs'; simp at this; omega
        have h5 : decide ((pre.length : Int) ≤ 5) = true := by simp; omega
        have hpm : ((pre.length : Nat) : Int) < ((m.length : Nat) : Int) := by omega
        have hget := idx_bools (m := m) (i := pre.length) (by omega)
        have hw1 : IntKind.i64.wrap ((pre.length : Int) + 1) = ((pre.length + 1 : Nat) : Int) := by rw [IntWalk.i64_in _ (by omega)]; omega
        have hu := under_len m pre.length
        have hA : ((under m pre.length).length + 1) * 8 ≤ 140737488355328 := by omega
        have hB : (under m pre.length).length ≤ 9223372036854775806 := by omega
        have hpl : plains [AV.int IntKind.i64 (pre.length : Int)] = true := rfl
        clear hs'
        have hsc := under_succ (m := m) (n := pre.length)
        generalize hv : (m[pre.length]?).getD false = v at hget hsc
        cases v with
        | false =>
          simp -implicitDefEqProofs only [Bool.false_eq_true, if_false] at hsc
          simp -implicitDefEqProofs only [W3, ↓D3, ↓DA, ↓DP, ↓DC, QX, h5, hpm, hget, hw1, hu, hA, hB, hpl, hsc, goStep, List.map_append, SH, keep_151_15, leaf_some, isNormal, Int.reduceToNat, id_eq, Int.reduceBEq, Int.reduceLE, Int.reduceLT, Nat.reduceAdd, Nat.reduceEqDiff, Nat.reduceLT, Nat.reduceLeDiff, Nat.reduceMul, Nat.reduceSub, reduceIte]
          repeat' (split <;> (rename_i h; (try simp -implicitDefEqProofs only [Bool.not_eq_true', Bool.not_eq_false', decide_eq_true_eq, decide_eq_false_iff_not] at h); (try simp -implicitDefEqProofs only [W3, ↓D3, ↓DA, ↓DP, ↓DC, QX, *, h5, hpm, hget, hw1, hu, hA, hB, hpl, hsc, goStep, List.map_append, SH, keep_151_15, leaf_some, isNormal, Int.reduceToNat, id_eq, Int.reduceBEq, Int.reduceLE, Int.reduceLT, Nat.reduceAdd, Nat.reduceEqDiff, Nat.reduceLT, Nat.reduceLeDiff, Nat.reduceMul, Nat.reduceSub, reduceIte])))
        | true =>
          simp -implicitDefEqProofs only [if_true] at hsc
          simp -implicitDefEqProofs only [W3, ↓D3, ↓DA, ↓DP, ↓DC, QX, h5, hpm, hget, hw1, hu, hA, hB, hpl, hsc, goStep, List.map_append, SH, keep_151_15, leaf_some, isNormal, Int.reduceToNat, id_eq, Int.reduceBEq, Int.reduceLE, Int.reduceLT, Nat.reduceAdd, Nat.reduceEqDiff, Nat.reduceLT, Nat.reduceLeDiff, Nat.reduceMul, Nat.reduceSub, reduceIte]
          repeat' (split <;> (rename_i h; (try simp -implicitDefEqProofs only [Bool.not_eq_true', Bool.not_eq_false', decide_eq_true_eq, decide_eq_false_iff_not] at h); (try simp -implicitDefEqProofs only [W3, ↓D3, ↓DA, ↓DP, ↓DC, QX, *, h5, hpm, hget, hw1, hu, hA, hB, hpl, hsc, goStep, List.map_append, SH, keep_151_15, leaf_some, isNormal, Int.reduceToNat, id_eq, Int.reduceBEq, Int.reduceLE, Int.reduceLT, Nat.reduceAdd, Nat.reduceEqDiff, Nat.reduceLT, Nat.reduceLeDiff, Nat.reduceMul, Nat.reduceSub, reduceIte])))
      · simp -implicitDefEqProofs only [firstRegion]
        rw [keep_151_15]
        have hu0 : under m 0 = [] := rfl
        simp -implicitDefEqProofs only [W3, ↓D3, ↓DA, ↓DP, ↓DC, hu0, Int.reduceToNat, id_eq, Int.reduceBEq, Int.reduceLE, Int.reduceLT, SH, Nat.reduceAdd, Nat.reduceEqDiff, Nat.reduceLT, Nat.reduceLeDiff, Nat.reduceMul, Nat.reduceSub, reduceIte]
      · rfl
    · intro pre x r' m hs' hm
      have hp5 : pre.length ≤ 5 := by have := congrArg List.length hs'; simp at this; omega
      have h5 : decide ((pre.length : Int) ≤ 5) = true := by simp; omega
      have hw1 : IntKind.i64.wrap ((pre.length : Int) + 1) = ((pre.length + 1 : Nat) : Int) := by rw [IntWalk.i64_in _ (by omega)]; omega
      clear hs'
      simp -implicitDefEqProofs only [W1, ↓D1, ↓DC, h5, leaf_some, isNormal, ifEv_bool, Int.reduceToNat, id_eq, Int.reduceBEq, Int.reduceLE, Int.reduceLT, Nat.reduceAdd, Nat.reduceEqDiff, Nat.reduceLT, Nat.reduceLeDiff, Nat.reduceMul, Nat.reduceSub, reduceIte]
      rw [ev_loop]
      refine loop_list (Q := fun g z => g = Roles.pass (l.map pairOf) m → Leaf (thenEv E _ _ _ _ _ (outOf 1 (outOf 2 z))) _) l passStep id
        (fun i m => { sl := [(0, .sl fl (l.map (Includes.enc fl))), (5, .own 0 false 3 1 []), (6, .own 1 false 4 1 (m.map AV.bool)), (7, .int .i64 (pre.length : Nat)), (8, .int .i64 (i : Nat))], bx := [], nx := 2, nt := 73 })
        (fun _ m => m.length = 6) m ?_ ?_ (by omega) hm ?_ (passLoop _ _ _)
      · intro m' hm'
        simp -implicitDefEqProofs only [W3, ↓D3, ↓DA, ↓DP, ↓DC, QX, hw1, passesStep, id_eq, hm', SH, keep_151_7, leaf_some, isNormal, Int.reduceToNat, Int.reduceBEq, Int.reduceLE, Int.reduceLT, Nat.reduceAdd, Nat.reduceEqDiff, Nat.reduceLT, Nat.reduceLeDiff, Nat.reduceMul, Nat.reduceSub, reduceIte]
        repeat' (split <;> (rename_i h; (try simp -implicitDefEqProofs only [Bool.not_eq_true', Bool.not_eq_false', decide_eq_true_eq, decide_eq_false_iff_not] at h); (try simp -implicitDefEqProofs only [W3, ↓D3, ↓DA, ↓DP, ↓DC, QX, *, hw1, passesStep, id_eq, hm', SH, keep_151_7, leaf_some, isNormal, Int.reduceToNat, Int.reduceBEq, Int.reduceLE, Int.reduceLT, Nat.reduceAdd, Nat.reduceEqDiff, Nat.reduceLT, Nat.reduceLeDiff, Nat.reduceMul, Nat.reduceSub, reduceIte])))
        intro he
        rw [← he]
        simp -implicitDefEqProofs only [W2, ↓D2, ↓DC, QX, hm', leaf_some, isNormal, Int.reduceToNat, id_eq, Int.reduceBEq, Int.reduceLE, Int.reduceLT, Nat.reduceAdd, Nat.reduceEqDiff, Nat.reduceLT, Nat.reduceLeDiff, Nat.reduceMul, Nat.reduceSub, reduceIte]
        repeat' (split <;> (rename_i h; (try simp -implicitDefEqProofs only [Bool.not_eq_true', Bool.not_eq_false', decide_eq_true_eq, decide_eq_false_iff_not] at h); (try simp -implicitDefEqProofs only [W2, ↓D2, ↓DC, QX, *, hm', leaf_some, isNormal, Int.reduceToNat, id_eq, Int.reduceBEq, Int.reduceLE, Int.reduceLT, Nat.reduceAdd, Nat.reduceEqDiff, Nat.reduceLT, Nat.reduceLeDiff, Nat.reduceMul, Nat.reduceSub, reduceIte])))
      · rintro pre2 y r2 m' hs2 hm'
        have hx := (at_row hs2 hl).1
        have hlt := (at_row hs2 hl).2.2.1
        have hw2 := (at_row hs2 hl).2.2.2.1
        clear hs2
        by_cases e1 : inR y.greater 0 5 = true
        · have f1 : 0 ≤ y.greater ∧ y.greater < 6 := by simp [inR] at e1; omega
          have f2 : y.greater.toNat < m'.length := by omega
          have f3 := idx_bools f2
          have e1' : Roles.isR y.greater = true := e1
          have f4 : y.greater < ((m'.length : Nat) : Int) := by omega
          by_cases e2 : inR y.lesser 0 5 = true
          · have g1 : 0 ≤ y.lesser ∧ y.lesser < 6 := by simp [inR] at e2; omega
            have g2 : y.lesser.toNat < m'.length := by omega
            have g3 := idx_bools g2
            have e2' : Roles.isR y.lesser = true := e2
            have g4 : y.lesser < ((m'.length : Nat) : Int) := by omega
            generalize hv : (m'[y.greater.toNat]?).getD false = v at f3
            cases v with
            | false =>
              have hst : Roles.stepS m' (pairOf y) = m' := by
                simp -implicitDefEqProofs only [Roles.stepS, pairOf, e1', e2', hv, Bool.and_false, Bool.false_eq_true, if_false]
              simp -implicitDefEqProofs only [W3, ↓D3, ↓DA, ↓DP, ↓DC, QX, enc_Includes, hx, hlt, hw2, c0, e1, e2, f1, n6, f3, f4, g1, hst, hm', passStep, SH, keep_151_10, leaf_some, isNormal, Int.reduceToNat, id_eq, Int.reduceBEq, Int.reduceLE, Int.reduceLT, Nat.reduceAdd, Nat.reduceEqDiff, Nat.reduceLT, Nat.reduceLeDiff, Nat.reduceMul, Nat.reduceSub, reduceIte]
              repeat' (split <;> (rename_i h; (try simp -implicitDefEqProofs only [Bool.not_eq_true', Bool.not_eq_false', decide_eq_true_eq, decide_eq_false_iff_not] at h); (try simp -implicitDefEqProofs only [W3, ↓D3, ↓DA, ↓DP, ↓DC, QX, *, enc_Includes, hx, hlt, hw2, c0, e1, e2, f1, n6, f3, f4, g1, hst, hm', passStep, SH, keep_151_10, leaf_some, isNormal, Int.reduceToNat, id_eq, Int.reduceBEq, Int.reduceLE, Int.reduceLT, Nat.reduceAdd, Nat.reduceEqDiff, Nat.reduceLT, Nat.reduceLeDiff, Nat.reduceMul, Nat.reduceSub, reduceIte])))
            | true =>
              have hst : Roles.stepS m' (pairOf y) = m'.set y.lesser.toNat true := by
                simp -implicitDefEqProofs only [Roles.stepS, pairOf, e1', e2', hv, Bool.and_self, if_true]
              simp -implicitDefEqProofs only [W3, ↓D3, ↓DA, ↓DP, ↓DC, QX, enc_Includes, hx, hlt, hw2, c0, e1, e2, f1, n6, f3, f4, g1, g3, g4, hst, hm', passStep, set_bools, List.length_set, SH, keep_151_10, leaf_some, isNormal, Int.reduceToNat, id_eq, Int.reduceBEq, Int.reduceLE, Int.reduceLT, Nat.reduceAdd, Nat.reduceEqDiff, Nat.reduceLT, Nat.reduceLeDiff, Nat.reduceMul, Nat.reduceSub, reduceIte]
              repeat' (split <;> (rename_i h; (try simp -implicitDefEqProofs only [Bool.not_eq_true', Bool.not_eq_false', decide_eq_true_eq, decide_eq_false_iff_not] at h); (try simp -implicitDefEqProofs only [W3, ↓D3, ↓DA, ↓DP, ↓DC, QX, *, enc_Includes, hx, hlt, hw2, c0, e1, e2, f1, n6, f3, f4, g1, g3, g4, hst, hm', passStep, set_bools, List.length_set, SH, keep_151_10, leaf_some, isNormal, Int.reduceToNat, id_eq, Int.reduceBEq, Int.reduceLE, Int.reduceLT, Nat.reduceAdd, Nat.reduceEqDiff, Nat.reduceLT, Nat.reduceLeDiff, Nat.reduceMul, Nat.reduceSub, reduceIte])))
          · have e2' : inR y.lesser 0 5 = false := by simpa using e2
            have e8 : Roles.isR y.lesser = false := e2'
            have hst : Roles.stepS m' (pairOf y) = m' := by
              simp -implicitDefEqProofs only [Roles.stepS, pairOf, e8, Bool.and_false, Bool.false_and, Bool.false_eq_true, if_false]
            simp -implicitDefEqProofs only [W3, ↓D3, ↓DA, ↓DP, ↓DC, QX, enc_Includes, hx, hlt, hw2, c0, e1, e2', hst, hm', passStep, SH, keep_151_10, leaf_some, isNormal, Int.reduceToNat, id_eq, Int.reduceBEq, Int.reduceLE, Int.reduceLT, Nat.reduceAdd, Nat.reduceEqDiff, Nat.reduceLT, Nat.reduceLeDiff, Nat.reduceMul, Nat.reduceSub, reduceIte]
            repeat' (split <;> (rename_i h; (try simp -implicitDefEqProofs only [Bool.not_eq_true', Bool.not_eq_false', decide_eq_true_eq, decide_eq_false_iff_not] at h); (try simp -implicitDefEqProofs only [W3, ↓D3, ↓DA, ↓DP, ↓DC, QX, *, enc_Includes, hx, hlt, hw2, c0, e1, e2', hst, hm', passStep, SH, keep_151_10, leaf_some, isNormal, Int.reduceToNat, id_eq, Int.reduceBEq, Int.reduceLE, Int.reduceLT, Nat.reduceAdd, Nat.reduceEqDiff, Nat.reduceLT, Nat.reduceLeDiff, Nat.reduceMul, Nat.reduceSub, reduceIte])))
        · have e1' : inR y.greater 0 5 = false := by simpa using e1
          have e8 : Roles.isR y.greater = false := e1'
          have hst : Roles.stepS m' (pairOf y) = m' := by
            simp -implicitDefEqProofs only [Roles.stepS, pairOf, e8, Bool.false_and, Bool.false_eq_true, if_false]
          simp -implicitDefEqProofs only [W3, ↓D3, ↓DA, ↓DP, ↓DC, QX, enc_Includes, hx, hlt, hw2, c0, e1', hst, hm', passStep, SH, keep_151_10, leaf_some, isNormal, Int.reduceToNat, id_eq, Int.reduceBEq, Int.reduceLE, Int.reduceLT, Nat.reduceAdd, Nat.reduceEqDiff, Nat.reduceLT, Nat.reduceLeDiff, Nat.reduceMul, Nat.reduceSub, reduceIte]
          repeat' (split <;> (rename_i h; (try simp -implicitDefEqProofs only [Bool.not_eq_true', Bool.not_eq_false', decide_eq_true_eq, decide_eq_false_iff_not] at h); (try simp -implicitDefEqProofs only [W3, ↓D3, ↓DA, ↓DP, ↓DC, QX, *, enc_Includes, hx, hlt, hw2, c0, e1', hst, hm', passStep, SH, keep_151_10, leaf_some, isNormal, Int.reduceToNat, id_eq, Int.reduceBEq, Int.reduceLE, Int.reduceLT, Nat.reduceAdd, Nat.reduceEqDiff, Nat.reduceLT, Nat.reduceLeDiff, Nat.reduceMul, Nat.reduceSub, reduceIte])))
      · simp -implicitDefEqProofs only [firstRegion]
        rw [keep_151_10]
        simp -implicitDefEqProofs only [W3, ↓D3, ↓DA, ↓DP, ↓DC, Int.reduceToNat, id_eq, Int.reduceBEq, Int.reduceLE, Int.reduceLT, SH, Nat.reduceAdd, Nat.reduceEqDiff, Nat.reduceLT, Nat.reduceLeDiff, Nat.reduceMul, Nat.reduceSub, reduceIte]
    · simp -implicitDefEqProofs only [firstRegion]
      rw [keep_151_7]
      simp -implicitDefEqProofs only [W3, ↓D3, ↓DA, ↓DP, ↓DC, Int.reduceToNat, id_eq, Int.reduceBEq, Int.reduceLE, Int.reduceLT, SH, Nat.reduceAdd, Nat.reduceEqDiff, Nat.reduceLT, Nat.reduceLeDiff, Nat.reduceMul, Nat.reduceSub, reduceIte]
  · have hr' : inR r 0 5 = false := by simpa using hr
    simp -implicitDefEqProofs only [W3, ↓D3, ↓DA, ↓DP, ↓DC, rolesUnder, hr', if_false, Go.Proofs.Tryz.f151, c0, ifEv_bool, Int.reduceToNat, id_eq, Int.reduceBEq, Int.reduceLE, Int.reduceLT, SH, Nat.reduceAdd, Nat.reduceEqDiff, Nat.reduceLT, Nat.reduceLeDiff, Nat.reduceMul, Nat.reduceSub, reduceIte]
theorem has_iff {m : List Bool} {i : Nat} : Roles.Has m i ↔ (m[i]?).getD false = true := by
  unfold Roles.Has
  cases m[i]? with
  | none => simp
  | some b => simp
theorem rolesUnder_len (l : List Includes) (r : Int) : (rolesUnder l r).length ≤ 6 := by
  unfold rolesUnder
  split
  · exact under_len _ _
  · simp
theorem plainS_bools (m : List Bool) : (m.map AV.bool).all plainS = true := by
  induction m with
  | nil => rfl
  | cons b m ih => simp [plainS]
end Go.Proofs.YtaojmienjikfbaaGreatDoor.Flat
