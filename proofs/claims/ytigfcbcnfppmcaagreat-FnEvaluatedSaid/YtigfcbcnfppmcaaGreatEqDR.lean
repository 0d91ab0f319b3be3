/-
Roles under roles, epochs as they should be.
-/
import Derived.Test.YtigfcbcnfppmcaaGreatEqH
import Derived.Test.YtigfcbcnfppmcaaGreatEqR
import Derived.Test.YtigfcbcnfppmcaaGreatEqL
set_option linter.unusedVariables false
set_option linter.unusedSimpArgs false
set_option maxRecDepth 10000
namespace Go.Proofs.YtigfcbcnfppmcaaGreat.Flat
theorem r_impl_isRole (k : Nat) (hk : 281474976710656 + 2 ≤ k) (z : Int) : run E noExt k 125 [.int .i64 z] [] = some (.bool (inR z 0 5), []) := by
  obtain ⟨k, rfl⟩ : ∃ j, k = j + 1 := ⟨k - 1, by omega⟩
  rw [run_succ rfl rfl, body_eq (nt := 5) (fn := Go.Proofs.Tryz.f125) (by kernel_rfl) rfl rfl rfl rfl rfl rfl rfl rfl]
  have c_impl_InRange := r_impl_InRange k (by omega)
  simp -implicitDefEqProofs only [QS, QN, ZRS, ↓ZDS, Go.Proofs.Tryz.f125, c_impl_InRange, ifEv_bool, gate_bool, gateP_bool, gateQ_bool, pick_bool, SN, evCutRow, Int.reduceToNat, id_eq, Int.reduceBEq, Int.reduceLE, Int.reduceLT, SS, one_ne2, num_ne2, TIS, MDS, AV.cells, AV.isCell, Value.cells, Nat.reduceAdd, Nat.reduceEqDiff, Nat.reduceLT, Nat.reduceLeDiff, Nat.reduceMul, Nat.reduceSub, reduceIte]
  repeat' (split <;> (rename_i h; (try simp -implicitDefEqProofs only [Bool.not_eq_true', Bool.not_eq_false', decide_eq_true_eq, decide_eq_false_iff_not] at h); (try simp -implicitDefEqProofs only [QS, QN, ZRS, ↓ZDS, *, c_impl_InRange, ifEv_bool, gate_bool, gateP_bool, gateQ_bool, pick_bool, SN, evCutRow, Int.reduceToNat, id_eq, Int.reduceBEq, Int.reduceLE, Int.reduceLT, SS, one_ne2, num_ne2, TIS, MDS, AV.cells, AV.isCell, Value.cells, Nat.reduceAdd, Nat.reduceEqDiff, Nat.reduceLT, Nat.reduceLeDiff, Nat.reduceMul, Nat.reduceSub, reduceIte])))
theorem rowss_bools (m : List Bool) : AV.rowss (m.map AV.bool) = [] := by
  induction m with
  | nil => rfl
  | cons b m ih => simpa [AV.rowss, AV.rows] using ih
theorem boxess_bools (m : List Bool) : AV.boxess (m.map AV.bool) = [] := by
  induction m with
  | nil => rfl
  | cons b m ih => simpa [AV.boxess, AV.boxes] using ih
theorem mapOs_bools {f : Nat → Bool → Nat → Nat → List AV → AV} {g : Nat → Nat → AV} {h : Bool → Nat → Bool → Nat → Nat → List AV → Nat → Nat → AV} {z : Unit → AV} (m : List Bool) : AV.mapOs f g h z (m.map AV.bool) = m.map AV.bool := by
  induction m with
  | nil => rfl
  | cons b m ih => simp [AV.mapOs, AV.mapO, ih]
theorem maps_bools {f : Nat → Bool → Nat → Nat → List AV → AV} {g : Nat → Nat → AV} {h : Bool → Nat → Bool → Nat → Nat → List AV → Nat → Nat → AV} {z : Unit → AV} (m : List Bool) : List.map (fun v => AV.mapO f g h z v) (m.map AV.bool) = m.map AV.bool := by
  have := mapOs_bools (f := f) (g := g) (h := h) (z := z) m
  rw [AV.mapOs_eq] at this
  exact this
theorem ren_bools {g b : List Nat} (m : List Bool) : List.map (renameB g b) (m.map AV.bool) = m.map AV.bool := maps_bools m
theorem allRows_bools {p : Nat → Bool} (m : List Bool) : List.all (m.map AV.bool) (fun v => List.all v.rows p) = true := by
  induction m with
  | nil => rfl
  | cons b m ih => simp [AV.rows]
theorem plain_bools (m : List Bool) : (m.map AV.bool).all plainC = true := by
  induction m with
  | nil => rfl
  | cons b m ih => simp [plainC]
theorem cells_bools (m : List Bool) : (m.map AV.bool).all AV.isCell = true := by
  induction m with
  | nil => rfl
  | cons b m ih => simp [AV.isCell]
theorem head_bools {m : List Bool} {i : Nat} (h : i < m.length) : (List.drop i (m.map AV.bool)).head? = some (.bool ((m[i]?).getD false)) := by
  rw [List.head?_drop, List.getElem?_map, List.getElem?_eq_getElem h]
  rfl
theorem store_bools {m : List Bool} {i : Nat} {b : Bool} (h : i < m.length) : List.take i (m.map AV.bool) ++ [.bool b] ++ List.drop (i + 1) (m.map AV.bool) = (m.set i b).map AV.bool := by
  rw [← List.map_take, ← List.map_drop, List.set_eq_take_append_cons_drop, if_pos h]
  simp
def pairOf (x : Includes) : Int × Int := (x.greater, x.lesser)
def belowStep (a : Int) (_ : Nat) (x : Includes) (p : List Bool × List Int) : Sum (List Bool × List Int) (List Bool × List Int) := .inr (Roles.stepB a p (pairOf x))
theorem belowLoop (a : Int) : ∀ (s : List Includes) (i : Nat) (p : List Bool × List Int), loopL (belowStep a) id i s p = Roles.roundB (s.map pairOf) a p
  | [], i, p => rfl
  | x :: r, i, p => by simp -implicitDefEqProofs only [loopL, belowStep]; rw [belowLoop a r]; rfl
theorem r_impl_below {fl : Bool} (k : Nat) (hk : 281474976710656 + 3 ≤ k) (l : List Includes) (hl : l.length ≤ 140737488355328) (r : Int) :
    run E noExt k 126 [.sl fl (l.map (Includes.enc fl)), .int .i64 r] [] = some (.agg ((Roles.ends (l.map pairOf) (List.replicate 6 false, [r])).map AV.bool), []) := by
  have c0 := r_impl_isRole (k - 1) (by omega)
  obtain ⟨k, rfl⟩ : ∃ j, k = j + 1 := ⟨k - 1, by omega⟩
  rw [run_succ rfl rfl, body_eq (nt := 53) (fn := Go.Proofs.Tryz.f126) (by kernel_rfl) rfl rfl rfl rfl rfl rfl rfl rfl]
  simp -implicitDefEqProofs only [Nat.add_sub_cancel] at c0
  simp -implicitDefEqProofs only [QS, QN, QG, QO, ZRS, ↓ZDS, ZRG, ↓ZDG, ZRO, ↓ZDO, Go.Proofs.Tryz.f126, SN, evCutRow, Int.reduceToNat, id_eq, Int.reduceBEq, Int.reduceLE, Int.reduceLT, SO, SH, evAppend, rowOf, noref, isRef, isPtr, noPtr, isBad, AV.isUndef, SS, one_ne2, num_ne2, TIS, MDS, AV.cells, AV.isCell, Value.cells, Nat.reduceAdd, Nat.reduceEqDiff, Nat.reduceLT, Nat.reduceLeDiff, Nat.reduceMul, Nat.reduceSub, reduceIte]
  rw [ev_loop]
  refine Eq.trans (loop_while (Q := fun (g : List Bool) x => thenEnd E.P [] _ 0 (thenEv E _ _ _ _ _ (outOf 0 x)) = some (.agg (g.map AV.bool), []))
    (fun p => match p.2 with | [] => none | a :: t => some (Roles.roundB (l.map pairOf) a (p.1, t))) (Roles.ends (l.map pairOf))
    (fun p => { sl := [(0, .sl fl (l.map (Includes.enc fl))), (4, .ptr 0 0), (5, .ptr 1 0), (6, .own 0 false 3 1 (p.2.map (AV.int .i64)))], bx := [(0, [.bool false, .bool false, .bool false, .bool false, .bool false, .bool false]), (1, p.1.map AV.bool)], nx := 3, nt := 53 })
    (fun p => p.1.length = 6 ∧ Roles.left p ≤ 7) Roles.left (List.replicate 6 false, [r]) ?_ ?_ ?_ ⟨rfl, ?_⟩ ?_) ?_
  · rintro ⟨m, t⟩ ⟨h1, h2⟩
    simp only at h1
    have ht : List.take 6 (List.map AV.bool m) = List.map AV.bool m := List.take_of_length_le (by simp [h1])
    cases t with
    | nil =>
      simp -implicitDefEqProofs only [QS, QN, QG, ZRS, ↓ZDS, ZRG, ↓ZDG, h1, ht, cells_bools, Nat.min_self, Roles.ends_nil, plain_bools, leaf_some, isNormal, ifEv_bool, gate_bool, gateP_bool, gateQ_bool, pick_bool, SN, evCutRow, Int.reduceToNat, id_eq, Int.reduceBEq, Int.reduceLE, Int.reduceLT, SS, one_ne2, num_ne2, TIS, MDS, AV.cells, AV.isCell, Value.cells, Nat.reduceAdd, Nat.reduceEqDiff, Nat.reduceLT, Nat.reduceLeDiff, Nat.reduceMul, Nat.reduceSub, reduceIte]
      repeat' (split <;> (rename_i h; (try simp -implicitDefEqProofs only [Bool.not_eq_true', Bool.not_eq_false', decide_eq_true_eq, decide_eq_false_iff_not] at h); (try simp -implicitDefEqProofs only [QS, QN, QG, ZRS, ↓ZDS, ZRG, ↓ZDG, *, h1, ht, cells_bools, Nat.min_self, Roles.ends_nil, plain_bools, leaf_some, isNormal, ifEv_bool, gate_bool, gateP_bool, gateQ_bool, pick_bool, SN, evCutRow, Int.reduceToNat, id_eq, Int.reduceBEq, Int.reduceLE, Int.reduceLT, SS, one_ne2, num_ne2, TIS, MDS, AV.cells, AV.isCell, Value.cells, Nat.reduceAdd, Nat.reduceEqDiff, Nat.reduceLT, Nat.reduceLeDiff, Nat.reduceMul, Nat.reduceSub, reduceIte])))
    | cons a t =>
      have hp : ((0 : Int) < ((t.length + 1 : Nat) : Int)) = True := by simp
      have hq : ((1 : Int) ≤ ((t.length + 1 : Nat) : Int)) = True := by simp; omega
      simp -implicitDefEqProofs only [QS, QN, QO, ZRS, ↓ZDS, ZRO, ↓ZDO, h1, hp, hq, Int.reduceToNat, SO, SH, evAppend, rowOf, noref, isRef, isPtr, noPtr, isBad, AV.isUndef, dedup, nodupB, idx, AV.rows, AV.rowss, AV.mapO, AV.mapOs, leaf_some, isNormal, ifEv_bool, gate_bool, gateP_bool, gateQ_bool, pick_bool, SN, evCutRow, id_eq, Int.reduceBEq, Int.reduceLE, Int.reduceLT, SS, one_ne2, num_ne2, TIS, MDS, AV.cells, AV.isCell, Value.cells, Nat.reduceAdd, Nat.reduceEqDiff, Nat.reduceLT, Nat.reduceLeDiff, Nat.reduceMul, Nat.reduceSub, reduceIte]
      repeat' (split <;> (rename_i h; (try simp -implicitDefEqProofs only [Bool.not_eq_true', Bool.not_eq_false', decide_eq_true_eq, decide_eq_false_iff_not] at h); (try simp -implicitDefEqProofs only [QS, QN, QO, ZRS, ↓ZDS, ZRO, ↓ZDO, *, h1, hp, hq, Int.reduceToNat, SO, SH, evAppend, rowOf, noref, isRef, isPtr, noPtr, isBad, AV.isUndef, dedup, nodupB, idx, AV.rows, AV.rowss, AV.mapO, AV.mapOs, leaf_some, isNormal, ifEv_bool, gate_bool, gateP_bool, gateQ_bool, pick_bool, SN, evCutRow, id_eq, Int.reduceBEq, Int.reduceLE, Int.reduceLT, SS, one_ne2, num_ne2, TIS, MDS, AV.cells, AV.isCell, Value.cells, Nat.reduceAdd, Nat.reduceEqDiff, Nat.reduceLT, Nat.reduceLeDiff, Nat.reduceMul, Nat.reduceSub, reduceIte])))
      rw [ev_loop]
      refine loop_list (Q := fun g z => g = Roles.roundB (l.map pairOf) a (m, t) → Leaf (outOf 1 (outOf 2 z)) _) l (belowStep a) id
        (fun i p => { sl := [(0, .sl fl (l.map (Includes.enc fl))), (4, .ptr 0 0), (5, .ptr 1 0), (6, .own 0 false 3 1 (p.2.map (AV.int .i64))), (7, .int .i64 a), (21, .sl fl (l.map (Includes.enc fl))), (22, .int .i64 (l.length : Nat)), (23, .int .i64 (i : Nat))], bx := [(0, [.bool false, .bool false, .bool false, .bool false, .bool false, .bool false]), (1, p.1.map AV.bool)], nx := 3, nt := 53 })
        (fun _ p => p.1.length = 6 ∧ p.2.length ≤ Roles.cnt p.1 + 7) (m, t) ?_ ?_ (by omega) ⟨h1, ?_⟩ ?_ (belowLoop a l 0 (m, t))
      · rintro ⟨m', t'⟩ ⟨h3, h4⟩
        simp only at h3 h4
        simp -implicitDefEqProofs only [QS, QN, QG, ZRS, ↓ZDS, ZRG, ↓ZDG, h3, rowss_bools, boxess_bools, allRows_bools, maps_bools, mapOs_bools, ren_bools, id_eq, keep_126_3, leaf_some, isNormal, ifEv_bool, gate_bool, gateP_bool, gateQ_bool, pick_bool, SN, evCutRow, Int.reduceToNat, Int.reduceBEq, Int.reduceLE, Int.reduceLT, SS, one_ne2, num_ne2, TIS, MDS, AV.cells, AV.isCell, Value.cells, Nat.reduceAdd, Nat.reduceEqDiff, Nat.reduceLT, Nat.reduceLeDiff, Nat.reduceMul, Nat.reduceSub, reduceIte]
        repeat' (split <;> (rename_i h; (try simp -implicitDefEqProofs only [Bool.not_eq_true', Bool.not_eq_false', decide_eq_true_eq, decide_eq_false_iff_not] at h); (try simp -implicitDefEqProofs only [QS, QN, QG, ZRS, ↓ZDS, ZRG, ↓ZDG, *, h3, rowss_bools, boxess_bools, allRows_bools, maps_bools, mapOs_bools, ren_bools, id_eq, keep_126_3, leaf_some, isNormal, ifEv_bool, gate_bool, gateP_bool, gateQ_bool, pick_bool, SN, evCutRow, Int.reduceToNat, Int.reduceBEq, Int.reduceLE, Int.reduceLT, SS, one_ne2, num_ne2, TIS, MDS, AV.cells, AV.isCell, Value.cells, Nat.reduceAdd, Nat.reduceEqDiff, Nat.reduceLT, Nat.reduceLeDiff, Nat.reduceMul, Nat.reduceSub, reduceIte])))
        intro he
        rw [← he]
      · rintro pre x r' ⟨m', t'⟩ hs' ⟨h3, h4⟩
        simp only at h3 h4
        have hx := (at_row hs' hl).1; have hc := (at_row hs' hl).2.1; have hlt := (at_row hs' hl).2.2.1; have hw1 := (at_row hs' hl).2.2.2.1; have hl9 := (at_row hs' hl).2.2.2.2
        clear hs'
        have hc1 := Roles.cnt_le h3
        by_cases e1 : (x.greater == a) = true
        · by_cases e2 : inR x.lesser 0 5 = true
          · have e3 : 0 ≤ x.lesser ∧ x.lesser < 6 := by simp [inR] at e2; omega
            have e4 : x.lesser.toNat < m'.length := by omega
            have e5 := head_bools e4
            have e6 := store_bools (b := true) e4
            have e7 : x.lesser.toNat ≤ 5 := by omega
            have n6 : ((6 : Nat) : Int) = 6 := rfl
            have e8 : Roles.isR x.lesser = true := e2
            generalize hv : (m'[x.lesser.toNat]?).getD false = v at e5
            cases v with
            | false =>
              have hst : Roles.stepB a (m', t') (pairOf x) = (m'.set x.lesser.toNat true, t' ++ [x.lesser]) := by
                simp -implicitDefEqProofs only [Roles.stepB, pairOf, e1, e8, hv, Bool.not_false, Bool.and_self, if_true]
              have hpl : plains [AV.int IntKind.i64 x.lesser] = true := rfl
              have hA : (t'.length + 1) * 8 ≤ 140737488355328 := by omega
              have hB : t'.length ≤ 9223372036854775806 := by omega
              have hn := Roles.stepB_cnt (a := a) (p := (m', t')) (x := pairOf x) h3
              rw [hst] at hn
              have hn2 : (t' ++ [x.lesser]).length ≤ Roles.cnt (m'.set x.lesser.toNat true) + 7 := by simp only at hn; omega
              simp -implicitDefEqProofs only [QS, QN, QG, QO, ZRS, ↓ZDS, ZRG, ↓ZDG, ZRO, ↓ZDO, enc_Includes, hx, hlt, hw1, c0, e1, e2, e3, e5, e6, e7, n6, h3, hst, hpl, hA, hB, hn2, belowStep, List.map_append, List.length_set, Nat.mul_one, rowss_bools, boxess_bools, allRows_bools, maps_bools, mapOs_bools, ren_bools, SO, SH, evAppend, rowOf, noref, isRef, isPtr, noPtr, isBad, AV.isUndef, keep_126_7, leaf_some, isNormal, ifEv_bool, gate_bool, gateP_bool, gateQ_bool, pick_bool, SN, evCutRow, Int.reduceToNat, id_eq, Int.reduceBEq, Int.reduceLE, Int.reduceLT, SS, one_ne2, num_ne2, TIS, MDS, AV.cells, AV.isCell, Value.cells, Nat.reduceAdd, Nat.reduceEqDiff, Nat.reduceLT, Nat.reduceLeDiff, Nat.reduceMul, Nat.reduceSub, reduceIte]
              repeat' (split <;> (rename_i h; (try simp -implicitDefEqProofs only [Bool.not_eq_true', Bool.not_eq_false', decide_eq_true_eq, decide_eq_false_iff_not] at h); (try simp -implicitDefEqProofs only [QS, QN, QG, QO, ZRS, ↓ZDS, ZRG, ↓ZDG, ZRO, ↓ZDO, *, enc_Includes, hx, hlt, hw1, c0, e1, e2, e3, e5, e6, e7, n6, h3, hst, hpl, hA, hB, hn2, belowStep, List.map_append, List.length_set, Nat.mul_one, rowss_bools, boxess_bools, allRows_bools, maps_bools, mapOs_bools, ren_bools, SO, SH, evAppend, rowOf, noref, isRef, isPtr, noPtr, isBad, AV.isUndef, keep_126_7, leaf_some, isNormal, ifEv_bool, gate_bool, gateP_bool, gateQ_bool, pick_bool, SN, evCutRow, Int.reduceToNat, id_eq, Int.reduceBEq, Int.reduceLE, Int.reduceLT, SS, one_ne2, num_ne2, TIS, MDS, AV.cells, AV.isCell, Value.cells, Nat.reduceAdd, Nat.reduceEqDiff, Nat.reduceLT, Nat.reduceLeDiff, Nat.reduceMul, Nat.reduceSub, reduceIte])))
            | true =>
              have hst : Roles.stepB a (m', t') (pairOf x) = (m', t') := by
                simp -implicitDefEqProofs only [Roles.stepB, pairOf, e1, e8, hv, Bool.not_true, Bool.and_false, Bool.false_eq_true, if_false]
              simp -implicitDefEqProofs only [QS, QN, QG, QO, ZRS, ↓ZDS, ZRG, ↓ZDG, ZRO, ↓ZDO, enc_Includes, hx, hlt, hw1, c0, e1, e2, e3, e5, n6, h3, h4, hst, belowStep, Nat.mul_one, rowss_bools, boxess_bools, allRows_bools, maps_bools, mapOs_bools, ren_bools, SO, SH, evAppend, rowOf, noref, isRef, isPtr, noPtr, isBad, AV.isUndef, keep_126_7, leaf_some, isNormal, ifEv_bool, gate_bool, gateP_bool, gateQ_bool, pick_bool, SN, evCutRow, Int.reduceToNat, id_eq, Int.reduceBEq, Int.reduceLE, Int.reduceLT, SS, one_ne2, num_ne2, TIS, MDS, AV.cells, AV.isCell, Value.cells, Nat.reduceAdd, Nat.reduceEqDiff, Nat.reduceLT, Nat.reduceLeDiff, Nat.reduceMul, Nat.reduceSub, reduceIte]
              repeat' (split <;> (rename_i h; (try simp -implicitDefEqProofs only [Bool.not_eq_true', Bool.not_eq_false', decide_eq_true_eq, decide_eq_false_iff_not] at h); (try simp -implicitDefEqProofs only [QS, QN, QG, QO, ZRS, ↓ZDS, ZRG, ↓ZDG, ZRO, ↓ZDO, *, enc_Includes, hx, hlt, hw1, c0, e1, e2, e3, e5, n6, h3, h4, hst, belowStep, Nat.mul_one, rowss_bools, boxess_bools, allRows_bools, maps_bools, mapOs_bools, ren_bools, SO, SH, evAppend, rowOf, noref, isRef, isPtr, noPtr, isBad, AV.isUndef, keep_126_7, leaf_some, isNormal, ifEv_bool, gate_bool, gateP_bool, gateQ_bool, pick_bool, SN, evCutRow, Int.reduceToNat, id_eq, Int.reduceBEq, Int.reduceLE, Int.reduceLT, SS, one_ne2, num_ne2, TIS, MDS, AV.cells, AV.isCell, Value.cells, Nat.reduceAdd, Nat.reduceEqDiff, Nat.reduceLT, Nat.reduceLeDiff, Nat.reduceMul, Nat.reduceSub, reduceIte])))
          · have e2' : inR x.lesser 0 5 = false := by simpa using e2
            have e8 : Roles.isR x.lesser = false := e2'
            have hst : Roles.stepB a (m', t') (pairOf x) = (m', t') := by
              simp -implicitDefEqProofs only [Roles.stepB, pairOf, e8, Bool.false_and, Bool.and_false, Bool.false_eq_true, if_false]
            simp -implicitDefEqProofs only [QS, QN, QG, QO, ZRS, ↓ZDS, ZRG, ↓ZDG, ZRO, ↓ZDO, enc_Includes, hx, hlt, hw1, c0, e1, e2', h3, h4, hst, belowStep, rowss_bools, boxess_bools, allRows_bools, maps_bools, mapOs_bools, ren_bools, SO, SH, evAppend, rowOf, noref, isRef, isPtr, noPtr, isBad, AV.isUndef, keep_126_7, leaf_some, isNormal, ifEv_bool, gate_bool, gateP_bool, gateQ_bool, pick_bool, SN, evCutRow, Int.reduceToNat, id_eq, Int.reduceBEq, Int.reduceLE, Int.reduceLT, SS, one_ne2, num_ne2, TIS, MDS, AV.cells, AV.isCell, Value.cells, Nat.reduceAdd, Nat.reduceEqDiff, Nat.reduceLT, Nat.reduceLeDiff, Nat.reduceMul, Nat.reduceSub, reduceIte]
            repeat' (split <;> (rename_i h; (try simp -implicitDefEqProofs only [Bool.not_eq_true', Bool.not_eq_false', decide_eq_true_eq, decide_eq_false_iff_not] at h); (try simp -implicitDefEqProofs only [QS, QN, QG, QO, ZRS, ↓ZDS, ZRG, ↓ZDG, ZRO, ↓ZDO, *, enc_Includes, hx, hlt, hw1, c0, e1, e2', h3, h4, hst, belowStep, rowss_bools, boxess_bools, allRows_bools, maps_bools, mapOs_bools, ren_bools, SO, SH, evAppend, rowOf, noref, isRef, isPtr, noPtr, isBad, AV.isUndef, keep_126_7, leaf_some, isNormal, ifEv_bool, gate_bool, gateP_bool, gateQ_bool, pick_bool, SN, evCutRow, Int.reduceToNat, id_eq, Int.reduceBEq, Int.reduceLE, Int.reduceLT, SS, one_ne2, num_ne2, TIS, MDS, AV.cells, AV.isCell, Value.cells, Nat.reduceAdd, Nat.reduceEqDiff, Nat.reduceLT, Nat.reduceLeDiff, Nat.reduceMul, Nat.reduceSub, reduceIte])))
        · have e1' : (x.greater == a) = false := by simpa using e1
          have hst : Roles.stepB a (m', t') (pairOf x) = (m', t') := by
            simp -implicitDefEqProofs only [Roles.stepB, pairOf, e1', Bool.false_and, Bool.false_eq_true, if_false]
          simp -implicitDefEqProofs only [QS, QN, QG, QO, ZRS, ↓ZDS, ZRG, ↓ZDG, ZRO, ↓ZDO, enc_Includes, hx, hlt, hw1, c0, e1', h3, h4, hst, belowStep, rowss_bools, boxess_bools, allRows_bools, maps_bools, mapOs_bools, ren_bools, SO, SH, evAppend, rowOf, noref, isRef, isPtr, noPtr, isBad, AV.isUndef, keep_126_7, leaf_some, isNormal, ifEv_bool, gate_bool, gateP_bool, gateQ_bool, pick_bool, SN, evCutRow, Int.reduceToNat, id_eq, Int.reduceBEq, Int.reduceLE, Int.reduceLT, SS, one_ne2, num_ne2, TIS, MDS, AV.cells, AV.isCell, Value.cells, Nat.reduceAdd, Nat.reduceEqDiff, Nat.reduceLT, Nat.reduceLeDiff, Nat.reduceMul, Nat.reduceSub, reduceIte]
          repeat' (split <;> (rename_i h; (try simp -implicitDefEqProofs only [Bool.not_eq_true', Bool.not_eq_false', decide_eq_true_eq, decide_eq_false_iff_not] at h); (try simp -implicitDefEqProofs only [QS, QN, QG, QO, ZRS, ↓ZDS, ZRG, ↓ZDG, ZRO, ↓ZDO, *, enc_Includes, hx, hlt, hw1, c0, e1', h3, h4, hst, belowStep, rowss_bools, boxess_bools, allRows_bools, maps_bools, mapOs_bools, ren_bools, SO, SH, evAppend, rowOf, noref, isRef, isPtr, noPtr, isBad, AV.isUndef, keep_126_7, leaf_some, isNormal, ifEv_bool, gate_bool, gateP_bool, gateQ_bool, pick_bool, SN, evCutRow, Int.reduceToNat, id_eq, Int.reduceBEq, Int.reduceLE, Int.reduceLT, SS, one_ne2, num_ne2, TIS, MDS, AV.cells, AV.isCell, Value.cells, Nat.reduceAdd, Nat.reduceEqDiff, Nat.reduceLT, Nat.reduceLeDiff, Nat.reduceMul, Nat.reduceSub, reduceIte])))
      · have h5 := Roles.cnt_le h1
        simp -implicitDefEqProofs only [Roles.left, List.length_cons] at h2
        show t.length ≤ _
        omega
      · simp -implicitDefEqProofs only [firstRegion]
        rw [keep_126_7]
        simp -implicitDefEqProofs only [QS, QN, QG, QO, ZRS, ↓ZDS, ZRG, ↓ZDG, ZRO, ↓ZDO, h1, rowss_bools, boxess_bools, allRows_bools, maps_bools, mapOs_bools, ren_bools, SN, evCutRow, Int.reduceToNat, id_eq, Int.reduceBEq, Int.reduceLE, Int.reduceLT, SO, SH, evAppend, rowOf, noref, isRef, isPtr, noPtr, isBad, AV.isUndef, SS, one_ne2, num_ne2, TIS, MDS, AV.cells, AV.isCell, Value.cells, Nat.reduceAdd, Nat.reduceEqDiff, Nat.reduceLT, Nat.reduceLeDiff, Nat.reduceMul, Nat.reduceSub, reduceIte]
  · rintro ⟨m, t⟩ b' ⟨h1, h2⟩ hn
    cases t with
    | nil => simp at hn
    | cons a t =>
      simp -implicitDefEqProofs only [Option.some.injEq] at hn
      subst hn
      have hl6 : m.length = 6 := h1
      have h3 := Roles.round_left (l := l.map pairOf) (a := a) (t := t) hl6
      refine ⟨⟨by rw [Roles.roundB_len]; exact hl6, by omega⟩, by omega, Roles.ends_cons hl6⟩
  · have : Roles.left (List.replicate 6 false, [r]) = 7 := rfl
    omega
  · have : Roles.left (List.replicate 6 false, [r]) = 7 := rfl
    omega
  · simp -implicitDefEqProofs only [firstRegion]
    rw [keep_126_3]
    simp -implicitDefEqProofs only [QS, QN, QG, QO, ZRS, ↓ZDS, ZRG, ↓ZDG, ZRO, ↓ZDO, rowss_bools, boxess_bools, allRows_bools, maps_bools, mapOs_bools, ren_bools, SN, evCutRow, Int.reduceToNat, id_eq, Int.reduceBEq, Int.reduceLE, Int.reduceLT, SO, SH, evAppend, rowOf, noref, isRef, isPtr, noPtr, isBad, AV.isUndef, SS, one_ne2, num_ne2, TIS, MDS, AV.cells, AV.isCell, Value.cells, Nat.reduceAdd, Nat.reduceEqDiff, Nat.reduceLT, Nat.reduceLeDiff, Nat.reduceMul, Nat.reduceSub, reduceIte]
    rfl
  · rfl
theorem idx_bools {m : List Bool} {i : Nat} (h : i < m.length) : (m.map AV.bool)[i]? = some (.bool ((m[i]?).getD false)) := by
  rw [List.getElem?_map, List.getElem?_eq_getElem h]
  rfl
/-- The roles under a role, by the marks. -/
def under (m : List Bool) (n : Nat) : List Int := ((List.range n).filter fun i => (m[i]?).getD false).map Int.ofNat
noncomputable def rolesUnder (l : List Includes) (r : Int) : List Int := if inR r 0 5 = true then under (Roles.marks (l.map pairOf) r.toNat) 6 else []
theorem under_len (m : List Bool) (n : Nat) : (under m n).length ≤ n := by
  unfold under
  rw [List.length_map]
  exact Nat.le_trans (List.length_filter_le _ _) (by simp)
def goStep (_ : Nat) (_ : Nat) (_ : Unit) : Sum Unit Unit := .inr ()
theorem has_iff {m : List Bool} {i : Nat} : Roles.Has m i ↔ (m[i]?).getD false = true := by
  unfold Roles.Has
  cases m[i]? with
  | none => simp
  | some b => simp
theorem rolesUnder_len (l : List Includes) (r : Int) : (rolesUnder l r).length ≤ 6 := by
  unfold rolesUnder
  split
  · exact under_len _ _
  · simp
theorem plainS_bools (m : List Bool) : (m.map AV.bool).all plainS = true := by
  induction m with
  | nil => rfl
  | cons b m ih => simp [plainS]
end Go.Proofs.YtigfcbcnfppmcaaGreat.Flat
namespace Go.Proofs.YtigfcbcnfppmcaaGreat.Flat
theorem evCall_mutOwn {Φ : Phi} {nid n id : Nat} {b : Bool} {e sz : Nat} {xs : List AV} {v : AV} {dst : Option Nat} {st : St} : evCall Φ [.mut, .ro] nid n [.own id b e sz xs, v] [] dst st = evGive Φ nid n [(.mut, .own id b e sz xs), (.ro, v)] dst st := rfl
theorem evCall_mutAgg {Φ : Phi} {nid n : Nat} {cs : List AV} {v : AV} {dst : Option Nat} {st : St} : evCall Φ [.mut, .ro] nid n [.agg cs, v] [] dst st = evGive Φ nid n [(.mut, .agg cs), (.ro, v)] dst st := rfl
end Go.Proofs.YtigfcbcnfppmcaaGreat.Flat
namespace Go.Proofs.YtigfcbcnfppmcaaGreat.Flat
section
variable {Φ : Phi} {nid n a b t : Nat} {w x y z : AV} {dst : Option Nat} {st : St} {P : Program}
theorem look_nil {α : Type} {i : Nat} : look i ([] : List (Nat × α)) = none := rfl
theorem evCall_io1 : evCall Φ [.io] nid n [.ptr a b] [] dst st = evGive Φ nid n [(.io, .ptr a b)] dst st := rfl
theorem evCall_io2 : evCall Φ [.io, .ro] nid n [.ptr a b, x] [] dst st = evGive Φ nid n [(.io, .ptr a b), (.ro, x)] dst st := rfl
theorem evCall_io3 : evCall Φ [.io, .ro, .ro] nid n [.ptr a b, x, y] [] dst st = evGive Φ nid n [(.io, .ptr a b), (.ro, x), (.ro, y)] dst st := rfl
theorem evCall_io4 : evCall Φ [.io, .ro, .ro, .ro] nid n [.ptr a b, x, y, z] [] dst st = evGive Φ nid n [(.io, .ptr a b), (.ro, x), (.ro, y), (.ro, z)] dst st := rfl
def finish0 (P : Program) (md : List Mode) (t : Nat) (st : St) : Option (AV × List (List AV)) := finish P md [.tmp t] 1 st
def finJ (P : Program) (md : List Mode) (t : Nat) (st : St) (v : AV) : Option (AV × List (List AV)) := if isPtrB v = true then finish0 P md t st else finI st v
theorem finJ_io (m : Mode) (md : List Mode) (hm : mutSlots 0 (m :: md) = []) : finish P (m :: md) [.tmp t] 1 st = finJ P (m :: md) t st (st.get t) := by
  unfold finJ
  split
  · rfl
  · rename_i h
    exact finish_io1 hm (by simpa using h)
theorem finJ_1 : finish P [.io] [.tmp t] 1 st = finJ P [.io] t st (st.get t) := finJ_io _ _ rfl
theorem finJ_2 : finish P [.io, .ro] [.tmp t] 1 st = finJ P [.io, .ro] t st (st.get t) := finJ_io _ _ rfl
theorem finJ_3 : finish P [.io, .ro, .ro] [.tmp t] 1 st = finJ P [.io, .ro, .ro] t st (st.get t) := finJ_io _ _ rfl
theorem finJ_4 : finish P [.io, .ro, .ro, .ro] [.tmp t] 1 st = finJ P [.io, .ro, .ro, .ro] t st (st.get t) := finJ_io _ _ rfl
variable {md : List Mode}
theorem finJ_int {k : IntKind} {i : Int} : finJ P md t st (.int k i) = finI st (.int k i) := rfl
theorem finJ_bool {c : Bool} : finJ P md t st (.bool c) = finI st (.bool c) := rfl
theorem finJ_str {s : ByteArray} : finJ P md t st (.str s) = finI st (.str s) := rfl
theorem finJ_nils : finJ P md t st .nils = finI st .nils := rfl
theorem finJ_agg {cs : List AV} : finJ P md t st (.agg cs) = finI st (.agg cs) := rfl
theorem finJ_own {id e sz : Nat} {fz : Bool} {xs : List AV} : finJ P md t st (.own id fz e sz xs) = finI st (.own id fz e sz xs) := rfl
theorem finJ_sl {fl : Bool} {xs : List AV} : finJ P md t st (.sl fl xs) = finI st (.sl fl xs) := rfl
theorem finJ_tup {cs : List AV} : finJ P md t st (.tup cs) = finI st (.tup cs) := rfl
end
end Go.Proofs.YtigfcbcnfppmcaaGreat.Flat
namespace Go.Proofs.YtigfcbcnfppmcaaGreat.Flat
def byteA (z : Int) : AV := .int .u8 z
theorem byteA_eq {z : Int} : byteA z = .int .u8 z := rfl
theorem and_255 (x : Int) : 0 ≤ bits .and .i64 x 255 ∧ bits .and .i64 x 255 ≤ 255 := by
  unfold bits
  simp only
  have h : ((BitVec.ofInt IntKind.i64.bits x) &&& (BitVec.ofInt IntKind.i64.bits 255)).toNat ≤ 255 := by
    rw [BitVec.toNat_and]
    exact Nat.le_trans Nat.and_le_right (by decide)
  rw [IntWalk.i64_in _ (by omega)]
  omega
theorem conv_u8 {x : Int} : evConvert E.P 5 3 (.int .u8 x) = some (.int .i64 (IntKind.i64.wrap x)) := by kernel_rfl
/-- What the state becomes. -/
def nextH (h : Int) : Int := IntKind.i64.wrap (IntKind.i64.wrap (h * 6364136223846793005) + 1442695040888963407)
def shrI (n : Nat) (x : Int) : Int := x.fdiv (2 ^ n)
theorem shr33 {P : Program} {t : Nat} {x : Int} : evBin2 P .shr t (.int .i64 x) (.int .u64 33) = some (.int .i64 (shrI 33 x)) := rfl
theorem shr47 {P : Program} {t : Nat} {x : Int} : evBin2 P .shr t (.int .i64 x) (.int .u64 47) = some (.int .i64 (shrI 47 x)) := rfl
theorem xorI {P : Program} {t : Nat} {x y : Int} : evBin2 P .xor t (.int .i64 x) (.int .i64 y) = some (.int .i64 (bits .xor .i64 x y)) := rfl
theorem andI {P : Program} {t : Nat} {x y : Int} : evBin2 P .and t (.int .i64 x) (.int .i64 y) = some (.int .i64 (bits .and .i64 x y)) := rfl
def rawB (h : Int) : Int := bits .and .i64 (bits .xor .i64 (shrI 33 (nextH h)) (shrI 47 (nextH h))) 255
def byteAt (bs : List Int) (i : Nat) (h : Int) : Int := match bs[i]? with
  | some z => bits .and .i64 (IntKind.i64.wrap (rawB h + IntKind.i64.wrap z)) 255
  | none => rawB h
def nextI (bs : List Int) (i : Nat) : Nat := match bs[i]? with
  | some _ => i + 1
  | none => i
theorem byteAt_le (bs : List Int) (i : Nat) (h : Int) : 0 ≤ byteAt bs i h ∧ byteAt bs i h ≤ 255 := by
  unfold byteAt
  split <;> exact and_255 _
theorem r_spec_l1Byte {fl : Bool} (k : Nat) (hk : 281474976710656 + 1 ≤ k) (bs : List Int) (hb : bs.length ≤ 140737488355328) (i : Nat) (h : Int) :
    run E noExt k 100 [.ptr 0 0] [[.sl fl (bs.map byteA), .int .i64 (i : Nat), .int .i64 h]] = some (.int .i64 (byteAt bs i h), [[.sl fl (bs.map byteA), .int .i64 (nextI bs i : Nat), .int .i64 (nextH h)]]) := by
  obtain ⟨k, rfl⟩ : ∃ j, k = j + 1 := ⟨k - 1, by omega⟩
  rw [run_succ rfl rfl, body_eq (nt := 58) (fn := Go.Proofs.Tryz.f100) (by kernel_rfl) rfl rfl rfl rfl rfl rfl rfl rfl]
  rcases Nat.lt_or_ge i bs.length with hi | hi
  · have hx : bs[i]? = some bs[i] := List.getElem?_eq_getElem hi
    have hx2 : (bs.map byteA)[i]? = some (.int .u8 bs[i]) := by rw [List.getElem?_map, hx]; rfl
    have hlt : ((i : Nat) : Int) < ((bs.length : Nat) : Int) := by omega
    have hw : IntKind.i64.wrap (((i : Nat) : Int) + 1) = ((i + 1 : Nat) : Int) := by rw [IntWalk.i64_in _ (by omega)]; omega
    simp -implicitDefEqProofs only [QS, QN, QG, QO, ZRS, ↓ZDS, ZRG, ↓ZDG, ZRO, ↓ZDO, byteAt, nextI, hx, Go.Proofs.Tryz.f100, plan_100_2, plan_100_3, plan_100_4, hlt, hw, shr33, shr47, xorI, andI, byteA_eq, rawB, nextH, op_convert, conv_u8, look_nil, evCall_io1, evCall_io2, evCall_io3, evCall_io4, finJ_1, finJ_2, finJ_3, finJ_4, finJ_int, finJ_bool, finJ_str, finJ_nils, finJ_agg, finJ_own, finJ_sl, finJ_tup, look_cons, reduceCtorEq, evCall_mutOwn, evCall_mutAgg, evGive, giveRows, ioBoxes, mutArgs, roArgs, handArg, mutSlots, isPtrB, pairs, pairss, back_nil, back_cons, backO, backE, setBoxes, importB, mode_mut, mode_give, mode_io, mode_ro, List.zip_cons_cons, List.zip_nil_left, List.zip_nil_right, ite_self, ite_true, ite_false, finish_give, finish_mut1, finish_io0, finish_io2, finish_io3, finish_ioc, finI, finC, finW_ptr, SO, SH, evAppend, rowOf, noref, isRef, isPtr, noPtr, isBad, AV.isUndef, SN, evCutRow, Int.reduceToNat, id_eq, Int.reduceBEq, Int.reduceLE, Int.reduceLT, SS, one_ne2, num_ne2, TIS, MDS, AV.cells, AV.isCell, Value.cells, Nat.reduceAdd, Nat.reduceEqDiff, Nat.reduceLT, Nat.reduceLeDiff, Nat.reduceMul, Nat.reduceSub, reduceIte]
  · have hx : bs[i]? = none := List.getElem?_eq_none hi
    have hlt : ¬ ((i : Nat) : Int) < ((bs.length : Nat) : Int) := by omega
    simp -implicitDefEqProofs only [QS, QN, QG, QO, ZRS, ↓ZDS, ZRG, ↓ZDG, ZRO, ↓ZDO, byteAt, nextI, hx, Go.Proofs.Tryz.f100, plan_100_2, plan_100_3, plan_100_4, hlt, shr33, shr47, xorI, andI, byteA_eq, rawB, nextH, op_convert, conv_u8, look_nil, evCall_io1, evCall_io2, evCall_io3, evCall_io4, finJ_1, finJ_2, finJ_3, finJ_4, finJ_int, finJ_bool, finJ_str, finJ_nils, finJ_agg, finJ_own, finJ_sl, finJ_tup, look_cons, reduceCtorEq, evCall_mutOwn, evCall_mutAgg, evGive, giveRows, ioBoxes, mutArgs, roArgs, handArg, mutSlots, isPtrB, pairs, pairss, back_nil, back_cons, backO, backE, setBoxes, importB, mode_mut, mode_give, mode_io, mode_ro, List.zip_cons_cons, List.zip_nil_left, List.zip_nil_right, ite_self, ite_true, ite_false, finish_give, finish_mut1, finish_io0, finish_io2, finish_io3, finish_ioc, finI, finC, finW_ptr, SO, SH, evAppend, rowOf, noref, isRef, isPtr, noPtr, isBad, AV.isUndef, SN, evCutRow, Int.reduceToNat, id_eq, Int.reduceBEq, Int.reduceLE, Int.reduceLT, SS, one_ne2, num_ne2, TIS, MDS, AV.cells, AV.isCell, Value.cells, Nat.reduceAdd, Nat.reduceEqDiff, Nat.reduceLT, Nat.reduceLeDiff, Nat.reduceMul, Nat.reduceSub, reduceIte]
/-- A draw below n: its answer, and where the cursor stands then. -/
def below1 (bs : List Int) (n : Int) (i : Nat) (h : Int) : Int := if n ≤ 0 then 0 else if n ≤ 256 then (byteAt bs i h).tmod n else
  (IntKind.i64.wrap (IntKind.i64.wrap (IntKind.i64.wrap (byteAt bs i h * 65536) + IntKind.i64.wrap (byteAt bs (nextI bs i) (nextH h) * 256)) + byteAt bs (nextI bs (nextI bs i)) (nextH (nextH h)))).tmod n
def belowI (bs : List Int) (n : Int) (i : Nat) : Nat := if n ≤ 0 then i else if n ≤ 256 then nextI bs i else nextI bs (nextI bs (nextI bs i))
def belowH (n : Int) (h : Int) : Int := if n ≤ 0 then h else if n ≤ 256 then nextH h else nextH (nextH (nextH h))
theorem r_spec_l1Below {fl : Bool} (k : Nat) (hk : 281474976710656 + 2 ≤ k) (bs : List Int) (hb : bs.length ≤ 140737488355328) (n : Int) (i : Nat) (h : Int) :
    run E noExt k 69 [.ptr 0 0, .int .i64 n] [[.sl fl (bs.map byteA), .int .i64 (i : Nat), .int .i64 h]] = some (.int .i64 (below1 bs n i h), [[.sl fl (bs.map byteA), .int .i64 (belowI bs n i : Nat), .int .i64 (belowH n h)]]) := by
  have c1 := fun i h => r_spec_l1Byte (fl := fl) (k - 1) (by omega) bs hb i h
  obtain ⟨k, rfl⟩ : ∃ j, k = j + 1 := ⟨k - 1, by omega⟩
  rw [run_succ rfl rfl, body_eq (nt := 31) (fn := Go.Proofs.Tryz.f69) (by kernel_rfl) rfl rfl rfl rfl rfl rfl rfl rfl]
  simp -implicitDefEqProofs only [Nat.add_sub_cancel] at c1
  rcases Classical.em (n ≤ 0) with h0 | h0
  · simp -implicitDefEqProofs only [QS, QN, QG, QO, ZRS, ↓ZDS, ZRG, ↓ZDG, ZRO, ↓ZDO, below1, belowI, belowH, Go.Proofs.Tryz.f69, h0, c1, look_nil, evCall_io1, evCall_io2, evCall_io3, evCall_io4, finJ_1, finJ_2, finJ_3, finJ_4, finJ_int, finJ_bool, finJ_str, finJ_nils, finJ_agg, finJ_own, finJ_sl, finJ_tup, look_cons, reduceCtorEq, evCall_mutOwn, evCall_mutAgg, evGive, giveRows, ioBoxes, mutArgs, roArgs, handArg, mutSlots, isPtrB, pairs, pairss, back_nil, back_cons, backO, backE, setBoxes, importB, mode_mut, mode_give, mode_io, mode_ro, List.zip_cons_cons, List.zip_nil_left, List.zip_nil_right, ite_self, ite_true, ite_false, finish_give, finish_mut1, finish_io0, finish_io2, finish_io3, finish_ioc, finI, finC, finW_ptr, SO, SH, evAppend, rowOf, noref, isRef, isPtr, noPtr, isBad, AV.isUndef, SN, evCutRow, Int.reduceToNat, id_eq, Int.reduceBEq, Int.reduceLE, Int.reduceLT, SS, one_ne2, num_ne2, TIS, MDS, AV.cells, AV.isCell, Value.cells, Nat.reduceAdd, Nat.reduceEqDiff, Nat.reduceLT, Nat.reduceLeDiff, Nat.reduceMul, Nat.reduceSub, reduceIte]
  rcases Classical.em (n ≤ 256) with h1 | h1
  · have hn : ∀ t x, evBin2 E.P .rem t (.int .i64 x) (.int .i64 n) = some (.int .i64 (x.tmod n)) := fun t x => by
      have h9 : ¬ n = 0 := by omega
      simp [evBin2, evBin, evInt, h9]
    simp -implicitDefEqProofs only [QS, QN, QG, QO, ZRS, ↓ZDS, ZRG, ↓ZDG, ZRO, ↓ZDO, below1, belowI, belowH, Go.Proofs.Tryz.f69, h0, h1, hn, c1, look_nil, evCall_io1, evCall_io2, evCall_io3, evCall_io4, finJ_1, finJ_2, finJ_3, finJ_4, finJ_int, finJ_bool, finJ_str, finJ_nils, finJ_agg, finJ_own, finJ_sl, finJ_tup, look_cons, reduceCtorEq, evCall_mutOwn, evCall_mutAgg, evGive, giveRows, ioBoxes, mutArgs, roArgs, handArg, mutSlots, isPtrB, pairs, pairss, back_nil, back_cons, backO, backE, setBoxes, importB, mode_mut, mode_give, mode_io, mode_ro, List.zip_cons_cons, List.zip_nil_left, List.zip_nil_right, ite_self, ite_true, ite_false, finish_give, finish_mut1, finish_io0, finish_io2, finish_io3, finish_ioc, finI, finC, finW_ptr, SO, SH, evAppend, rowOf, noref, isRef, isPtr, noPtr, isBad, AV.isUndef, SN, evCutRow, Int.reduceToNat, id_eq, Int.reduceBEq, Int.reduceLE, Int.reduceLT, SS, one_ne2, num_ne2, TIS, MDS, AV.cells, AV.isCell, Value.cells, Nat.reduceAdd, Nat.reduceEqDiff, Nat.reduceLT, Nat.reduceLeDiff, Nat.reduceMul, Nat.reduceSub, reduceIte]
    trace_state
  · have hn : ∀ t x, evBin2 E.P .rem t (.int .i64 x) (.int .i64 n) = some (.int .i64 (x.tmod n)) := fun t x => by
      have h9 : ¬ n = 0 := by omega
      simp [evBin2, evBin, evInt, h9]
    simp -implicitDefEqProofs only [QS, QN, QG, QO, ZRS, ↓ZDS, ZRG, ↓ZDG, ZRO, ↓ZDO, below1, belowI, belowH, Go.Proofs.Tryz.f69, h0, h1, hn, c1, look_nil, evCall_io1, evCall_io2, evCall_io3, evCall_io4, finJ_1, finJ_2, finJ_3, finJ_4, finJ_int, finJ_bool, finJ_str, finJ_nils, finJ_agg, finJ_own, finJ_sl, finJ_tup, look_cons, reduceCtorEq, evCall_mutOwn, evCall_mutAgg, evGive, giveRows, ioBoxes, mutArgs, roArgs, handArg, mutSlots, isPtrB, pairs, pairss, back_nil, back_cons, backO, backE, setBoxes, importB, mode_mut, mode_give, mode_io, mode_ro, List.zip_cons_cons, List.zip_nil_left, List.zip_nil_right, ite_self, ite_true, ite_false, finish_give, finish_mut1, finish_io0, finish_io2, finish_io3, finish_ioc, finI, finC, finW_ptr, SO, SH, evAppend, rowOf, noref, isRef, isPtr, noPtr, isBad, AV.isUndef, SN, evCutRow, Int.reduceToNat, id_eq, Int.reduceBEq, Int.reduceLE, Int.reduceLT, SS, one_ne2, num_ne2, TIS, MDS, AV.cells, AV.isCell, Value.cells, Nat.reduceAdd, Nat.reduceEqDiff, Nat.reduceLT, Nat.reduceLeDiff, Nat.reduceMul, Nat.reduceSub, reduceIte]
    trace_state
end Go.Proofs.YtigfcbcnfppmcaaGreat.Flat
