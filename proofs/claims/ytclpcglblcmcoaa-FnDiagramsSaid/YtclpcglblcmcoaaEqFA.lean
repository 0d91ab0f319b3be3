/-
Roles under roles, epochs as they should be.
-/
import Derived.Test.YtclpcglblcmcoaaEqR
import Derived.Test.YtclpcglblcmcoaaFlatM4
set_option linter.unusedVariables false
set_option linter.unusedSimpArgs false
set_option maxRecDepth 10000
namespace Go.Proofs.Ytclpcglblcmcoaa.Flat
def hasStep (x : Int) (_ : Nat) (c : Int) (b : Unit) : Sum Bool Unit := if (c == x) = true then .inl true else .inr b
theorem hasLoop (x : Int) (s : List Int) (i : Nat) (b : Unit) : loopL (hasStep x) (fun _ => false) i s b = s.any (fun c => c == x) := by
  induction s generalizing i with
  | nil => rfl
  | cons c r ih => simp -implicitDefEqProofs only [loopL, hasStep, List.any_cons]; cases h : c == x <;> simp [ih]
theorem rowss_bools (m : List Bool) : AV.rowss (m.map AV.bool) = [] := by
  induction m with
  | nil => rfl
  | cons b m ih => simpa [AV.rowss, AV.rows] using ih
theorem boxess_bools (m : List Bool) : AV.boxess (m.map AV.bool) = [] := by
  induction m with
  | nil => rfl
  | cons b m ih => simpa [AV.boxess, AV.boxes] using ih
theorem mapOs_bools {f : Nat → Bool → Nat → Nat → List AV → AV} {g : Nat → Nat → AV} {h : Bool → Nat → Bool → Nat → Nat → List AV → Nat → Nat → AV} {z : Unit → AV} (m : List Bool) : AV.mapOs f g h z (m.map AV.bool) = m.map AV.bool := by
  induction m with
  | nil => rfl
  | cons b m ih => simp [AV.mapOs, AV.mapO, ih]
def under (m : List Bool) (n : Nat) : List Int := ((List.range n).filter fun i => (m[i]?).getD false).map Int.ofNat
theorem evCall_mutOwn {Φ : Phi} {nid n id : Nat} {b : Bool} {e sz : Nat} {xs : List AV} {v : AV} {dst : Option Nat} {st : St} : evCall Φ [.mut, .ro] nid n [.own id b e sz xs, v] [] dst st = evGive Φ nid n [(.mut, .own id b e sz xs), (.ro, v)] dst st := rfl
theorem evCall_mutAgg {Φ : Phi} {nid n : Nat} {cs : List AV} {v : AV} {dst : Option Nat} {st : St} : evCall Φ [.mut, .ro] nid n [.agg cs, v] [] dst st = evGive Φ nid n [(.mut, .agg cs), (.ro, v)] dst st := rfl
def valsOf (n i : Nat) : List Bool := (List.range n).map fun k => decide (i / 2 ^ k % 2 = 1)
theorem valsOf_succ (n i : Nat) : valsOf (n + 1) i = valsOf n i ++ [decide (i / 2 ^ n % 2 = 1)] := by simp [valsOf, List.range_succ]
theorem valsOf_len (n i : Nat) : (valsOf n i).length = n := by simp [valsOf]
theorem shr_small : ∀ i < 64, ∀ k < 6, ((i : Nat) : Int).fdiv (2 ^ (min ((k : Nat) : Int).toNat IntKind.i64.bits)) = ((i / 2 ^ k : Nat) : Int) := by decide
theorem and_small : ∀ i < 64, bits .and .i64 ((i : Nat) : Int) 1 = ((i % 2 : Nat) : Int) := by decide
theorem one_small : ∀ i < 64, (((i % 2 : Nat) : Int) == 1) = decide (i % 2 = 1) := by decide
theorem dbl_small : ∀ k < 6, IntKind.i64.wrap (2 * ((2 ^ k : Nat) : Int)) = ((2 ^ (k + 1) : Nat) : Int) := by decide
theorem shl_small : ∀ k < 7, IntKind.i64.wrap (1 * 2 ^ (min ((k : Nat) : Int).toNat IntKind.i64.bits)) = ((2 ^ k : Nat) : Int) := by decide
theorem r_spec_l21Bit (k : Nat) (hk : 281474976710656 + 1 ≤ k) (n : Nat) (hn : n ≤ 6) : run E noExt k 31 [.int .i64 (n : Nat)] [] = some (.int .i64 ((2 ^ n : Nat) : Int), []) := by
  obtain ⟨k, rfl⟩ : ∃ j, k = j + 1 := ⟨k - 1, by omega⟩
  rw [run_succ rfl rfl, body_eq (nt := 13) (fn := Go.Proofs.Try.f31) (by kernel_rfl) rfl rfl rfl rfl rfl rfl rfl rfl]
  simp -implicitDefEqProofs only [W1, ↓D1, ↓DC, Go.Proofs.Try.f31, Int.reduceToNat, id_eq, Int.reduceBEq, Int.reduceLE, Int.reduceLT, Nat.reduceAdd, Nat.reduceEqDiff, Nat.reduceLT, Nat.reduceLeDiff, Nat.reduceMul, Nat.reduceSub, reduceIte]
  rw [ev_loop]
  refine Eq.trans (loop_list (Q := fun (_ : Unit) z => thenEnd E.P [] _ 0 (thenEv E _ _ _ _ _ (outOf 0 z)) = some (.int .i64 ((2 ^ n : Nat) : Int), [])) (List.range n) (fun _ _ _ => .inr ()) id
    (fun i _ => { sl := [(0, .int .i64 (n : Nat)), (3, .int .i64 ((2 ^ i : Nat) : Int)), (4, .int .i64 (i : Nat))], bx := [], nx := 0, nt := 13 })
    (fun _ _ => True) () ?_ ?_ (by simp; omega) trivial ?_) ?_
  · intro _ _
    simp -implicitDefEqProofs only [W2, ↓D2, ↓DC, QX, List.length_range, leaf_some, isNormal, Int.reduceToNat, id_eq, Int.reduceBEq, Int.reduceLE, Int.reduceLT, Nat.reduceAdd, Nat.reduceEqDiff, Nat.reduceLT, Nat.reduceLeDiff, Nat.reduceMul, Nat.reduceSub, reduceIte]
    repeat' (split <;> (rename_i h; (try simp -implicitDefEqProofs only [Bool.not_eq_true', Bool.not_eq_false', decide_eq_true_eq, decide_eq_false_iff_not] at h); (try simp -implicitDefEqProofs only [W2, ↓D2, ↓DC, QX, *, List.length_range, leaf_some, isNormal, Int.reduceToNat, id_eq, Int.reduceBEq, Int.reduceLE, Int.reduceLT, Nat.reduceAdd, Nat.reduceEqDiff, Nat.reduceLT, Nat.reduceLeDiff, Nat.reduceMul, Nat.reduceSub, reduceIte])))
  · intro pre x r' _ hs' _
    have hp : pre.length < n := by have := congrArg List.length hs'; simp at this; omega
    have h5 : ((pre.length : Int) < (n : Int)) = True := eq_true (by omega)
    have hw1 : IntKind.i64.wrap ((pre.length : Int) + 1) = ((pre.length + 1 : Nat) : Int) := by rw [IntWalk.i64_in _ (by omega)]; omega
    have hd := dbl_small pre.length (by omega)
    clear hs'
    simp -implicitDefEqProofs only [W2, ↓D2, ↓DC, QX, h5, hw1, hd, keep_31_3, leaf_some, isNormal, Int.reduceToNat, id_eq, Int.reduceBEq, Int.reduceLE, Int.reduceLT, Nat.reduceAdd, Nat.reduceEqDiff, Nat.reduceLT, Nat.reduceLeDiff, Nat.reduceMul, Nat.reduceSub, reduceIte]
    repeat' (split <;> (rename_i h; (try simp -implicitDefEqProofs only [Bool.not_eq_true', Bool.not_eq_false', decide_eq_true_eq, decide_eq_false_iff_not] at h); (try simp -implicitDefEqProofs only [W2, ↓D2, ↓DC, QX, *, h5, hw1, hd, keep_31_3, leaf_some, isNormal, Int.reduceToNat, id_eq, Int.reduceBEq, Int.reduceLE, Int.reduceLT, Nat.reduceAdd, Nat.reduceEqDiff, Nat.reduceLT, Nat.reduceLeDiff, Nat.reduceMul, Nat.reduceSub, reduceIte])))
  · simp -implicitDefEqProofs only [firstRegion]; rw [keep_31_3]; simp -implicitDefEqProofs only [W2, ↓D2, ↓DC, Int.reduceToNat, id_eq, Int.reduceBEq, Int.reduceLE, Int.reduceLT, Nat.reduceAdd, Nat.reduceEqDiff, Nat.reduceLT, Nat.reduceLeDiff, Nat.reduceMul, Nat.reduceSub, reduceIte]; first | done | rfl
  · rfl
theorem r_impl_valuesOf (k : Nat) (hk : 281474976710656 + 2 ≤ k) (n i : Nat) (hn : n ≤ 6) (hi : i < 64) : run E noExt k 23 [.int .i64 (n : Nat), .int .i64 (i : Nat)] [] = some (.own 0 false 4 1 ((valsOf n i).map AV.bool), []) := by
  obtain ⟨k, rfl⟩ : ∃ j, k = j + 1 := ⟨k - 1, by omega⟩
  rw [run_succ rfl rfl, body_eq (nt := 22) (fn := Go.Proofs.Try.f23) (by kernel_rfl) rfl rfl rfl rfl rfl rfl rfl rfl]
  simp -implicitDefEqProofs only [W4, ↓D4, ↓DA, ↓DP, ↓DC, Go.Proofs.Try.f23, SH, dedup, nodupB, idx, AV.rows, AV.rowss, AV.mapO, AV.mapOs, Int.reduceToNat, id_eq, Int.reduceBEq, Int.reduceLE, Int.reduceLT, Nat.reduceAdd, Nat.reduceEqDiff, Nat.reduceLT, Nat.reduceLeDiff, Nat.reduceMul, Nat.reduceSub, reduceIte]
  rw [ev_loop]
  refine Eq.trans (loop_list (Q := fun (_ : Unit) z => thenEnd E.P [] _ 0 (thenEv E _ _ _ _ _ (outOf 0 z)) = some (.own 0 false 4 1 ((valsOf n i).map AV.bool), [])) (List.range n) (fun _ _ _ => .inr ()) id
    (fun j _ => { sl := [(1, .int .i64 (i : Nat)), (5, .own 0 false 4 1 ((valsOf j i).map AV.bool)), (8, .int .i64 (n : Nat)), (9, .int .i64 (j : Nat))], bx := [], nx := 1, nt := 22 })
    (fun _ _ => True) () ?_ ?_ (by simp; omega) trivial ?_) ?_
  · intro _ _
    simp -implicitDefEqProofs only [W3, ↓D3, ↓DA, ↓DP, ↓DC, QX, List.length_range, rowss_bools, boxess_bools, mapOs_bools, SH, leaf_some, isNormal, Int.reduceToNat, id_eq, Int.reduceBEq, Int.reduceLE, Int.reduceLT, Nat.reduceAdd, Nat.reduceEqDiff, Nat.reduceLT, Nat.reduceLeDiff, Nat.reduceMul, Nat.reduceSub, reduceIte]
    repeat' (split <;> (rename_i h; (try simp -implicitDefEqProofs only [Bool.not_eq_true', Bool.not_eq_false', decide_eq_true_eq, decide_eq_false_iff_not] at h); (try simp -implicitDefEqProofs only [W3, ↓D3, ↓DA, ↓DP, ↓DC, QX, *, List.length_range, rowss_bools, boxess_bools, mapOs_bools, SH, leaf_some, isNormal, Int.reduceToNat, id_eq, Int.reduceBEq, Int.reduceLE, Int.reduceLT, Nat.reduceAdd, Nat.reduceEqDiff, Nat.reduceLT, Nat.reduceLeDiff, Nat.reduceMul, Nat.reduceSub, reduceIte])))
  · intro pre x r' _ hs' _
    have hp : pre.length < n := by have := congrArg List.length hs'; simp at this; omega
    have h5 : ((pre.length : Int) < (n : Int)) = True := eq_true (by omega)
    have hng : (((pre.length : Nat) : Int) < 0) = False := eq_false (by omega)
    have hw1 : IntKind.i64.wrap ((pre.length : Int) + 1) = ((pre.length + 1 : Nat) : Int) := by rw [IntWalk.i64_in _ (by omega)]; omega
    clear hs'
    have hq := shr_small i hi pre.length (by omega)
    have hlt : i / 2 ^ pre.length < 64 := Nat.lt_of_le_of_lt (Nat.div_le_self _ _) hi
    have hr := and_small _ hlt
    have ho := one_small _ hlt
    have hv := valsOf_succ pre.length i
    have hl := valsOf_len pre.length i
    have hm1 : (valsOf pre.length i).length + 1 ≤ 140737488355328 := by omega
    have hm2 : (valsOf pre.length i).length + 1 ≤ 9223372036854775807 := by omega
    generalize hbb : decide (i / 2 ^ pre.length % 2 = 1) = bb at ho hv
    have hpl : plains [AV.bool bb] = true := rfl
    generalize ((i / 2 ^ pre.length : Nat) : Int) = qq at hq hr
    generalize ((i / 2 ^ pre.length % 2 : Nat) : Int) = rr at hr ho
    have hsh : ∀ t, evBin2 E.P .shr t (.int .i64 ((i : Nat) : Int)) (.int .i64 ((pre.length : Nat) : Int)) = some (.int .i64 qq) := fun t => by simp -implicitDefEqProofs only [evBin2, evBin, evShift, hng, if_false, hq]
    have han : ∀ t, evBin2 E.P .and t (.int .i64 qq) (.int .i64 1) = some (.int .i64 rr) := fun t => by simp [evBin2, evBin, evInt, hr]
    clear hq hr
    simp -implicitDefEqProofs only [W3, ↓D3, ↓DA, ↓DP, ↓DC, QX, h5, hw1, hsh, han, ho, hv, hm1, hm2, hpl, Nat.mul_one, List.map_append, rowss_bools, boxess_bools, mapOs_bools, SH, keep_23_3, leaf_some, isNormal, Int.reduceToNat, id_eq, Int.reduceBEq, Int.reduceLE, Int.reduceLT, Nat.reduceAdd, Nat.reduceEqDiff, Nat.reduceLT, Nat.reduceLeDiff, Nat.reduceMul, Nat.reduceSub, reduceIte]
    repeat' (split <;> (rename_i h; (try simp -implicitDefEqProofs only [Bool.not_eq_true', Bool.not_eq_false', decide_eq_true_eq, decide_eq_false_iff_not] at h); (try simp -implicitDefEqProofs only [W3, ↓D3, ↓DA, ↓DP, ↓DC, QX, *, h5, hw1, hsh, han, ho, hv, hm1, hm2, hpl, Nat.mul_one, List.map_append, rowss_bools, boxess_bools, mapOs_bools, SH, keep_23_3, leaf_some, isNormal, Int.reduceToNat, id_eq, Int.reduceBEq, Int.reduceLE, Int.reduceLT, Nat.reduceAdd, Nat.reduceEqDiff, Nat.reduceLT, Nat.reduceLeDiff, Nat.reduceMul, Nat.reduceSub, reduceIte])))
  · simp -implicitDefEqProofs only [firstRegion]
    rw [keep_23_3]
    have hu0 : valsOf 0 i = [] := rfl
    simp -implicitDefEqProofs only [W3, ↓D3, ↓DA, ↓DP, ↓DC, hu0, Int.reduceToNat, id_eq, Int.reduceBEq, Int.reduceLE, Int.reduceLT, SH, Nat.reduceAdd, Nat.reduceEqDiff, Nat.reduceLT, Nat.reduceLeDiff, Nat.reduceMul, Nat.reduceSub, reduceIte]
  · rfl
noncomputable def tableN (d : Diagram) (n i : Nat) : List Bool := (List.range i).map fun j => answerOf d (valsOf n j)
noncomputable def tableOf (d : Diagram) : List Bool := if isDiagram d = true then tableN d d.atoms.toNat (2 ^ d.atoms.toNat) else []
theorem scals_bools2 (m : List Bool) : AV.scals (m.map AV.bool) = true := by
  induction m with
  | nil => rfl
  | cons b m ih => simpa [AV.scals, AV.scal] using ih
theorem plains_bools2 (m : List Bool) : plains (m.map AV.bool) = true := plains_map (fun _ => rfl) m
theorem opQ_buildSlice2 {E : Env} {Φ : Phi} {nid : Nat} {st : St} {dst : Option Nat} {t : TypeId} {len : Nat} {ps : Array (Nat × Operand)} {type : TypeId} {pos : String} {after : Array Edge} {guard : Option (Nat × Bool)} :
    evOpQ E Φ nid { dst, op := .buildSlice t len ps, type, pos, after, guard } st = if (ps.toList.flatMap fun p => (st.val p.2).rows) = [] then evBuildSlice E.P t len (ps.toList.map fun p => (p.1, st.val p.2)) nid dst st else none := rfl
theorem r_impl_TableOf {fl : Bool} (k : Nat) (hk : 290271069732864 + 8 ≤ k) (d : Diagram) (hw : d.w ≤ 1099511627776) :
    run E noExt k 9 [d.enc fl] [] = some (.own 0 false 4 1 ((tableOf d).map AV.bool), []) := by
  have c1 := r_impl_IsDiagram (fl := fl) (k - 1) (by omega) d hw
  have c3 := r_impl_valuesOf (k - 1) (by omega)
  have c4 := fun hd => r_impl_answer (fl := fl) (f2 := true) (k - 1) (by omega) d hd hw
  unfold tableOf
  obtain ⟨k, rfl⟩ : ∃ j, k = j + 1 := ⟨k - 1, by omega⟩
  rw [run_succ rfl rfl, body_eq (nt := 27) (fn := Go.Proofs.Try.f9) (by kernel_rfl) rfl rfl rfl rfl rfl rfl rfl rfl]
  simp -implicitDefEqProofs only [Nat.add_sub_cancel, enc_Diagram] at c1  c3 c4
  cases hd : isDiagram d with
  | false =>
    rw [hd] at c1
    simp -implicitDefEqProofs only [W3, ↓D3, ↓DA, ↓DP, ↓DC, Go.Proofs.Try.f9, enc_Diagram, c1, ifEv_bool, if_false, SH, Int.reduceToNat, id_eq, Int.reduceBEq, Int.reduceLE, Int.reduceLT, Nat.reduceAdd, Nat.reduceEqDiff, Nat.reduceLT, Nat.reduceLeDiff, Nat.reduceMul, Nat.reduceSub, reduceIte]
  | true =>
    rw [hd] at c1
    have hr := (diagram_ok hd).2.1
    simp -implicitDefEqProofs only [inR, Bool.and_eq_true, decide_eq_true_eq] at hr
    obtain ⟨n, hn⟩ : ∃ n : Nat, d.atoms = (n : Int) := ⟨d.atoms.toNat, by omega⟩
    have hn6 : n ≤ 6 := by omega
    have hN : 2 ^ n ≤ 64 := Nat.le_trans (Nat.pow_le_pow_right (by decide) hn6) (by decide)
    have hto : d.atoms.toNat = n := by omega
    have hsl : ∀ t, evBin2 E.P .shl t (.int .i64 1) (.int .i64 ((n : Nat) : Int)) = some (.int .i64 ((2 ^ n : Nat) : Int)) := fun t => by
      have h1 : (((n : Nat) : Int) < 0) = False := eq_false (by omega)
      simp -implicitDefEqProofs only [evBin2, evBin, evShift, h1, if_false, shl_small n (by omega)]
    have c4 := c4 hd
    have hans : ∀ v, (ansF d v (d.nodes.length + 1) d.root == -1) = answerOf d v := fun v => by unfold answerOf; rw [hd, Bool.true_and]
    simp -implicitDefEqProofs only [hans] at c4
    rw [hto]
    simp -implicitDefEqProofs only [hn] at c1 c4
    have hT : ∀ i, tableN d n (i + 1) = tableN d n i ++ [answerOf d (valsOf n i)] := fun i => by simp [tableN, List.range_succ]
    have hTl : ∀ i, (tableN d n i).length = i := fun i => by simp [tableN]
    generalize hP : (2 : Nat) ^ n = N at *
    simp -implicitDefEqProofs only [W4, ↓D4, ↓DA, ↓DP, ↓DC, Go.Proofs.Try.f9, enc_Diagram, hn, c1, hsl, ifEv_bool, if_true, SH, dedup, nodupB, idx, AV.rows, AV.rowss, AV.mapO, AV.mapOs, Int.reduceToNat, id_eq, Int.reduceBEq, Int.reduceLE, Int.reduceLT, Nat.reduceAdd, Nat.reduceEqDiff, Nat.reduceLT, Nat.reduceLeDiff, Nat.reduceMul, Nat.reduceSub, reduceIte]
    rw [ev_loop]
    refine Eq.trans (loop_list (Q := fun (_ : Unit) z => thenEnd E.P [] _ 0 (thenEv E _ _ _ _ _ (outOf 0 z)) = some (.own 0 false 4 1 ((tableN d n N).map AV.bool), [])) (List.range N) (fun _ _ _ => .inr ()) id
      (fun i _ => { sl := [(1, .ptr 0 0), (3, .own 0 false 4 1 ((tableN d n i).map AV.bool)), (12, .int .i64 (N : Nat)), (13, .int .i64 (i : Nat))], bx := [(0, [.int .i64 (n : Nat), .sl fl (d.nodes.map (Choice.enc fl)), .int .i64 d.root])], nx := 2, nt := 27 })
      (fun _ _ => True) () ?_ ?_ (by simp; omega) trivial ?_) ?_
    · intro _ _
      simp -implicitDefEqProofs only [W3, ↓D3, ↓DA, ↓DP, ↓DC, QX, List.length_range, rowss_bools, boxess_bools, mapOs_bools, SH, leaf_some, isNormal, Int.reduceToNat, id_eq, Int.reduceBEq, Int.reduceLE, Int.reduceLT, Nat.reduceAdd, Nat.reduceEqDiff, Nat.reduceLT, Nat.reduceLeDiff, Nat.reduceMul, Nat.reduceSub, reduceIte]
      repeat' (split <;> (rename_i h; (try simp -implicitDefEqProofs only [Bool.not_eq_true', Bool.not_eq_false', decide_eq_true_eq, decide_eq_false_iff_not] at h); (try simp -implicitDefEqProofs only [W3, ↓D3, ↓DA, ↓DP, ↓DC, QX, *, List.length_range, rowss_bools, boxess_bools, mapOs_bools, SH, leaf_some, isNormal, Int.reduceToNat, id_eq, Int.reduceBEq, Int.reduceLE, Int.reduceLT, Nat.reduceAdd, Nat.reduceEqDiff, Nat.reduceLT, Nat.reduceLeDiff, Nat.reduceMul, Nat.reduceSub, reduceIte])))
    · intro pre x r' _ hs' _
      have hp : pre.length < N := by have := congrArg List.length hs'; simp at this; omega
      have h5 : ((pre.length : Int) < (N : Int)) = True := eq_true (by omega)
      have hw1 : IntKind.i64.wrap ((pre.length : Int) + 1) = ((pre.length + 1 : Nat) : Int) := by rw [IntWalk.i64_in _ (by omega)]; omega
      clear hs'
      have c6 := c3 n pre.length hn6 (by omega)
      have c7 := c4 (valsOf n pre.length) (by rw [valsOf_len]; omega)
      have hv := hT pre.length
      have hl := hTl pre.length
      have hm1 : (tableN d n pre.length).length + 1 ≤ 140737488355328 := by omega
      have hm2 : (tableN d n pre.length).length + 1 ≤ 9223372036854775807 := by omega
      generalize answerOf d (valsOf n pre.length) = v at c7 hv
      have hpl : plains [AV.bool v] = true := rfl
      simp -implicitDefEqProofs only [W3, ↓D3, ↓DA, ↓DP, ↓DC, QX, h5, hw1, c6, c7, hv, hm1, hm2, hpl, opQ_buildSlice2, Nat.mul_one, List.map_append, scals_bools2, plains_bools2, rowss_bools, boxess_bools, mapOs_bools, plan_9_7, SH, keep_9_5, leaf_some, isNormal, Int.reduceToNat, id_eq, Int.reduceBEq, Int.reduceLE, Int.reduceLT, Nat.reduceAdd, Nat.reduceEqDiff, Nat.reduceLT, Nat.reduceLeDiff, Nat.reduceMul, Nat.reduceSub, reduceIte]
      repeat' (split <;> (rename_i h; (try simp -implicitDefEqProofs only [Bool.not_eq_true', Bool.not_eq_false', decide_eq_true_eq, decide_eq_false_iff_not] at h); (try simp -implicitDefEqProofs only [W3, ↓D3, ↓DA, ↓DP, ↓DC, QX, *, h5, hw1, c6, c7, hv, hm1, hm2, hpl, opQ_buildSlice2, Nat.mul_one, List.map_append, scals_bools2, plains_bools2, rowss_bools, boxess_bools, mapOs_bools, plan_9_7, SH, keep_9_5, leaf_some, isNormal, Int.reduceToNat, id_eq, Int.reduceBEq, Int.reduceLE, Int.reduceLT, Nat.reduceAdd, Nat.reduceEqDiff, Nat.reduceLT, Nat.reduceLeDiff, Nat.reduceMul, Nat.reduceSub, reduceIte])))
    · simp -implicitDefEqProofs only [firstRegion]
      rw [keep_9_5]
      have hu0 : tableN d n 0 = [] := rfl
      simp -implicitDefEqProofs only [W3, ↓D3, ↓DA, ↓DP, ↓DC, hu0, Int.reduceToNat, id_eq, Int.reduceBEq, Int.reduceLE, Int.reduceLT, SH, Nat.reduceAdd, Nat.reduceEqDiff, Nat.reduceLT, Nat.reduceLeDiff, Nat.reduceMul, Nat.reduceSub, reduceIte]
    · rfl
open Go.Lib
def sortUniq (zs : List Int) : List Int := compact (ascending zs)
theorem strict_ext : ∀ {xs ys : List Int}, xs.Pairwise (· < ·) → ys.Pairwise (· < ·) → (∀ x, x ∈ xs ↔ x ∈ ys) → xs = ys
  | [], [], _, _, _ => rfl
  | [], y :: ys, _, _, h => by have := (h y).2 (by simp); simp at this
  | x :: xs, [], _, _, h => by have := (h x).1 (by simp); simp at this
  | x :: xs, y :: ys, hx, hy, h => by
    rw [List.pairwise_cons] at hx hy
    have h1 : x = y := by
      have a := (h x).1 (by simp)
      have b := (h y).2 (by simp)
      rcases List.mem_cons.1 a with a | a
      · exact a
      · rcases List.mem_cons.1 b with b | b
        · exact b.symm
        · have := hx.1 y b; have := hy.1 x a; omega
    subst h1
    congr 1
    refine strict_ext hx.2 hy.2 fun z => ?_
    constructor
    · intro hz
      rcases List.mem_cons.1 ((h z).1 (by simp [hz])) with e | e
      · have := hx.1 z hz; omega
      · exact e
    · intro hz
      rcases List.mem_cons.1 ((h z).2 (by simp [hz])) with e | e
      · have := hy.1 z hz; omega
      · exact e
theorem upTo_spec {d : Array Int} (hs : ∀ i j, i ≤ j → j < d.size → d[i]! ≤ d[j]!) : ∀ m, m ≤ d.size → (compactUpTo d m).Pairwise (· < ·) ∧ ∀ x, x ∈ compactUpTo d m ↔ ∃ i, i < m ∧ d[i]! = x
  | 0, _ => ⟨by simp [compactUpTo], fun x => by simp [compactUpTo]⟩
  | m + 1, hm => by
    obtain ⟨h1, h2⟩ := upTo_spec hs m (by omega)
    rw [compactUpTo_succ]
    by_cases hk : keeps d m = true
    · rw [if_pos hk]
      refine ⟨?_, fun x => ?_⟩
      · rw [List.pairwise_append]
        refine ⟨h1, by simp, fun a ha b hb => ?_⟩
        obtain rfl := List.mem_singleton.1 hb
        obtain ⟨i, hi, rfl⟩ := (h2 a).1 ha
        have hle := hs i (m - 1) (by omega) (by omega)
        have hle2 := hs (m - 1) m (by omega) (by omega)
        simp -implicitDefEqProofs only [keeps, decide_eq_true_eq] at hk
        have := hk.resolve_left (by omega)
        omega
      · rw [List.mem_append, h2, List.mem_singleton]
        constructor
        · rintro (⟨i, hi, rfl⟩ | rfl)
          · exact ⟨i, by omega, rfl⟩
          · exact ⟨m, by omega, rfl⟩
        · rintro ⟨i, hi, rfl⟩
          by_cases e : i = m
          · exact .inr (by rw [e])
          · exact .inl ⟨i, by omega, rfl⟩
    · rw [if_neg hk, List.append_nil]
      refine ⟨h1, fun x => ?_⟩
      rw [h2]
      simp -implicitDefEqProofs only [keeps, decide_eq_true_eq, not_or, Classical.not_not] at hk
      constructor
      · rintro ⟨i, hi, rfl⟩
        exact ⟨i, by omega, rfl⟩
      · rintro ⟨i, hi, rfl⟩
        by_cases e : i = m
        · exact ⟨m - 1, by omega, by rw [e]; exact hk.2.symm⟩
        · exact ⟨i, by omega, rfl⟩
theorem ascending_sorted (zs : List Int) : (ascending zs).Pairwise (· ≤ ·) := by
  have := List.pairwise_mergeSort (le := fun x y : Int => decide (x ≤ y)) (fun a b c h1 h2 => by simp at *; omega) (fun a b => by simp; omega) zs
  exact this.imp (by simp)
theorem ascending_mem (zs : List Int) (x : Int) : x ∈ ascending zs ↔ x ∈ zs := by
  unfold ascending
  exact List.mem_mergeSort
theorem sortUniq_spec (zs : List Int) : (sortUniq zs).Pairwise (· < ·) ∧ ∀ x, x ∈ sortUniq zs ↔ x ∈ zs := by
  have hs : ∀ i j, i ≤ j → j < (ascending zs).toArray.size → (ascending zs).toArray[i]! ≤ (ascending zs).toArray[j]! := by
    intro i j hij hj
    have hj' : j < (ascending zs).length := by simpa using hj
    rw [getElem!_pos (ascending zs).toArray i (by simp; omega), getElem!_pos (ascending zs).toArray j hj]
    simp -implicitDefEqProofs only [List.getElem_toArray]
    rcases Nat.lt_or_eq_of_le hij with h | rfl
    · exact List.pairwise_iff_getElem.1 (ascending_sorted zs) i j (by omega) hj' h
    · exact Int.le_refl _
  obtain ⟨h1, h2⟩ := upTo_spec hs (ascending zs).length (by simp)
  refine ⟨h1, fun x => ?_⟩
  rw [show sortUniq zs = compactUpTo (ascending zs).toArray (ascending zs).length from rfl, h2, ← ascending_mem zs x]
  constructor
  · rintro ⟨i, hi, rfl⟩
    rw [getElem!_pos (ascending zs).toArray i (by simpa using hi)]
    simp
  · intro hx
    obtain ⟨i, hi, rfl⟩ := List.getElem_of_mem hx
    exact ⟨i, hi, by rw [getElem!_pos (ascending zs).toArray i (by simpa using hi)]; simp⟩
theorem sortUniq_eq {zs ys : List Int} (hy : ys.Pairwise (· < ·)) (h : ∀ x, x ∈ ys ↔ x ∈ zs) : sortUniq zs = ys := by
  obtain ⟨h1, h2⟩ := sortUniq_spec zs
  exact strict_ext h1 hy fun x => (h2 x).trans (h x).symm
def within (a b n : Int) : Bool := isT a && (isT b && (isT n && inR n a b))
theorem r_sort (k : Nat) (hk : 1 ≤ k) (e : Nat) (zs : List Int) (h : zs.length < 4611686018427387904) : run E noExt k 28 [.own 0 false e 1 (zs.map (AV.int .i64))] [] = some (.tup [], [[.own 0 false e 1 ((ascending zs).map (AV.int .i64))]]) := by
  obtain ⟨k, rfl⟩ : ∃ j, k = j + 1 := ⟨k - 1, by omega⟩
  simp -implicitDefEqProofs only [run, ext_28, sortExt, intsOf_map, Option.bind_some, h, if_true]
theorem r_compact (k : Nat) (hk : 1 ≤ k) (e : Nat) (zs : List Int) : run E noExt k 29 [.own 0 false e 1 (zs.map (AV.int .i64))] [] = some (.own 0 false e 1 ((Lib.compact zs).map (AV.int .i64)), []) := by
  obtain ⟨k, rfl⟩ : ∃ j, k = j + 1 := ⟨k - 1, by omega⟩
  simp -implicitDefEqProofs only [run, ext_29, compactExt, intsOf_map, Option.map_some]
def asks (l : List Choice) (i : Nat) : Bool := l.any fun c => c.atom == (i : Int)
def depL (l : List Choice) (n : Nat) : List Int := ((List.range n).filter (asks l)).map Int.ofNat
theorem depL_len (l : List Choice) (n : Nat) : (depL l n).length ≤ n := by
  unfold depL
  rw [List.length_map]
  exact Nat.le_trans (List.length_filter_le _ _) (by simp)
theorem depL_strict (l : List Choice) (n : Nat) : (depL l n).Pairwise (· < ·) := by
  unfold depL
  rw [List.pairwise_map]
  refine List.Pairwise.filter _ ?_
  exact List.pairwise_lt_range.imp fun h => by show ((_ : Nat) : Int) < ((_ : Nat) : Int); omega
def depStep (_ : Nat) (c : Choice) (b : List Int) : Sum (List Int) (List Int) := .inr (if inR c.atom 0 5 = true then b ++ [c.atom] else b)
def depA (l : List Choice) : List Int := (l.filter fun c => inR c.atom 0 5).map Choice.atom
theorem depLoop : ∀ (l : List Choice) (i : Nat) (b : List Int), loopL depStep id i l b = b ++ depA l
  | [], i, b => by simp [loopL, depA]
  | c :: r, i, b => by
    simp -implicitDefEqProofs only [loopL, depStep]
    rw [depLoop r]
    unfold depA
    by_cases h : inR c.atom 0 5 = true
    · rw [if_pos h, List.filter_cons_of_pos (p := fun c : Choice => inR c.atom 0 5) h]; simp
    · rw [if_neg h, List.filter_cons_of_neg (p := fun c : Choice => inR c.atom 0 5) h]
theorem depA_eq (l : List Choice) : sortUniq (depA l) = depL l 6 := by
  refine sortUniq_eq (depL_strict l 6) fun x => ?_
  unfold depL depA asks
  simp -implicitDefEqProofs only [List.mem_map, List.mem_filter, List.mem_range, List.any_eq_true, beq_iff_eq]
  constructor
  · rintro ⟨i, ⟨h1, c, hc, h2⟩, rfl⟩
    refine ⟨c, ⟨hc, ?_⟩, h2⟩
    unfold inR
    simp -implicitDefEqProofs only [Bool.and_eq_true, decide_eq_true_eq]
    omega
  · rintro ⟨c, ⟨hc, h⟩, rfl⟩
    unfold inR at h
    simp -implicitDefEqProofs only [Bool.and_eq_true, decide_eq_true_eq] at h
    refine ⟨c.atom.toNat, ⟨by omega, c, hc, by omega⟩, ?_⟩
    show ((c.atom.toNat : Nat) : Int) = c.atom
    omega
theorem r_impl_DependsOn {fl : Bool} (k : Nat) (hk : 281474976710656 + 3 ≤ k) (d : Diagram) (hd : d.nodes.length ≤ 1099511627776) :
    run E noExt k 13 [d.enc fl] [] = some (.own 0 false 3 1 ((depL d.nodes 6).map (AV.int .i64)), []) := by
  have hs : d.nodes.length ≤ 140737488355328 := by omega
  have c1 := r_impl_InRange (k - 1) (by omega)
  have c4 := r_sort (k - 1) (by omega) 3
  have c5 := r_compact (k - 1) (by omega) 3
  obtain ⟨k, rfl⟩ : ∃ j, k = j + 1 := ⟨k - 1, by omega⟩
  rw [run_succ rfl rfl, body_eq (nt := 27) (fn := Go.Proofs.Try.f13) (by kernel_rfl) rfl rfl rfl rfl rfl rfl rfl rfl]
  simp -implicitDefEqProofs only [Nat.add_sub_cancel] at c1 c4 c5
  simp -implicitDefEqProofs only [W4, ↓D4, ↓DA, ↓DP, ↓DC, Go.Proofs.Try.f13, enc_Diagram, ifEv_bool, Int.reduceToNat, id_eq, Int.reduceBEq, Int.reduceLE, Int.reduceLT, SH, dedup, nodupB, idx, AV.rows, AV.rowss, AV.mapO, AV.mapOs, Nat.reduceAdd, Nat.reduceEqDiff, Nat.reduceLT, Nat.reduceLeDiff, Nat.reduceMul, Nat.reduceSub, reduceIte]
  rw [ev_loop]
  refine loop_list (Q := fun g z => g = depA d.nodes → thenEnd E.P [] _ 0 (thenEv E _ _ _ _ _ (outOf 0 z)) = some (.own 0 false 3 1 ((depL d.nodes 6).map (AV.int .i64)), [])) d.nodes depStep id
    (fun i out => { sl := [(3, .own 0 false 3 1 (out.map (AV.int .i64))), (8, .sl fl (d.nodes.map (Choice.enc fl))), (9, .int .i64 (d.nodes.length : Nat)), (10, .int .i64 (i : Nat))], bx := [], nx := 1, nt := 27 })
    (fun i out => out.length ≤ i) [] ?_ ?_ (by omega) (by simp) ?_ (depLoop d.nodes 0 [])
  · intro out ho
    have c6 := c4 out (by omega)
    have c7 := c5 (ascending out)
    simp -implicitDefEqProofs only [W3, ↓D3, ↓DA, ↓DP, ↓DC, leaf_some, isNormal, ifEv_bool, c6, c7, scals_ints, Int.reduceToNat, id_eq, Int.reduceBEq, Int.reduceLE, Int.reduceLT, look_cons, reduceCtorEq, evCall, evGive, giveRows, ioBoxes, mutArgs, roArgs, handArg, mutSlots, isPtrB, pairs, pairss, back_nil, back_cons, backO, backE, setBoxes, importB, mode_mut, mode_give, mode_io, mode_ro, List.zip_cons_cons, List.zip_nil_left, List.zip_nil_right, ite_self, ite_true, ite_false, finish_give, finish_mut1, finish_io0, finish_io1, finish_io2, finish_io3, finish_ioc, finI, finC, finW_ptr, SH, Nat.reduceAdd, Nat.reduceEqDiff, Nat.reduceLT, Nat.reduceLeDiff, Nat.reduceMul, Nat.reduceSub, reduceIte]
    intro he
    rw [← depA_eq, ← he]
    rfl
  · intro pre x r' out hs' ho
    have hx := (at_row hs' hs).1; have hc := (at_row hs' hs).2.1; have hlt := (at_row hs' hs).2.2.1; have hw1 := (at_row hs' hs).2.2.2.1; have hl9 := (at_row hs' hs).2.2.2.2
    clear hs'
    have c3 := c1 x.atom 0 5
    have hm1 : (out.length + 1) * 8 ≤ 140737488355328 := by omega
    have hm2 : out.length + 1 ≤ 9223372036854775807 := by omega
    have hpl : plains [AV.int IntKind.i64 x.atom] = true := rfl
    have hm3 : out.length ≤ pre.length + 1 := by omega
    have hm4 : (out ++ [x.atom]).length ≤ pre.length + 1 := by rw [List.length_append]; exact Nat.succ_le_succ ho
    have hst : depStep pre.length x out = .inr (if inR x.atom 0 5 = true then out ++ [x.atom] else out) := rfl
    cases e : inR x.atom 0 5 <;> rw [e] at c3 hst <;> simp -implicitDefEqProofs only [Bool.false_eq_true, if_false, if_true] at hst
    all_goals
      simp -implicitDefEqProofs only [W3, ↓D3, ↓DA, ↓DP, ↓DC, QX, enc_Choice, hx, hlt, hw1, c3, hst, hm1, hm2, hm3, hm4, hpl, List.map_append, SH, keep_13_3, leaf_some, isNormal, Int.reduceToNat, id_eq, Int.reduceBEq, Int.reduceLE, Int.reduceLT, Nat.reduceAdd, Nat.reduceEqDiff, Nat.reduceLT, Nat.reduceLeDiff, Nat.reduceMul, Nat.reduceSub, reduceIte]
      repeat' (split <;> (rename_i h; (try simp -implicitDefEqProofs only [Bool.not_eq_true', Bool.not_eq_false', decide_eq_true_eq, decide_eq_false_iff_not] at h); (try simp -implicitDefEqProofs only [W3, ↓D3, ↓DA, ↓DP, ↓DC, QX, *, enc_Choice, hx, hlt, hw1, c3, hst, hm1, hm2, hm3, hm4, hpl, List.map_append, SH, keep_13_3, leaf_some, isNormal, Int.reduceToNat, id_eq, Int.reduceBEq, Int.reduceLE, Int.reduceLT, Nat.reduceAdd, Nat.reduceEqDiff, Nat.reduceLT, Nat.reduceLeDiff, Nat.reduceMul, Nat.reduceSub, reduceIte])))
  · simp -implicitDefEqProofs only [firstRegion]
    rw [keep_13_3]
    simp -implicitDefEqProofs only [W3, ↓D3, ↓DA, ↓DP, ↓DC, Int.reduceToNat, id_eq, Int.reduceBEq, Int.reduceLE, Int.reduceLT, SH, Nat.reduceAdd, Nat.reduceEqDiff, Nat.reduceLT, Nat.reduceLeDiff, Nat.reduceMul, Nat.reduceSub, reduceIte]
section
variable {Φ : Phi} {nid n a b t : Nat} {w x y z : AV} {dst : Option Nat} {st : St} {P : Program}
theorem look_nil {α : Type} {i : Nat} : look i ([] : List (Nat × α)) = none := rfl
theorem evCall_io1 : evCall Φ [.io] nid n [.ptr a b] [] dst st = evGive Φ nid n [(.io, .ptr a b)] dst st := rfl
theorem evCall_io2 : evCall Φ [.io, .ro] nid n [.ptr a b, x] [] dst st = evGive Φ nid n [(.io, .ptr a b), (.ro, x)] dst st := rfl
theorem evCall_io3 : evCall Φ [.io, .ro, .ro] nid n [.ptr a b, x, y] [] dst st = evGive Φ nid n [(.io, .ptr a b), (.ro, x), (.ro, y)] dst st := rfl
theorem evCall_io4 : evCall Φ [.io, .ro, .ro, .ro] nid n [.ptr a b, x, y, z] [] dst st = evGive Φ nid n [(.io, .ptr a b), (.ro, x), (.ro, y), (.ro, z)] dst st := rfl
def finish0 (P : Program) (md : List Mode) (t : Nat) (st : St) : Option (AV × List (List AV)) := finish P md [.tmp t] 1 st
def finJ (P : Program) (md : List Mode) (t : Nat) (st : St) (v : AV) : Option (AV × List (List AV)) := if isPtrB v = true then finish0 P md t st else finI st v
theorem finJ_io (m : Mode) (md : List Mode) (hm : mutSlots 0 (m :: md) = []) : finish P (m :: md) [.tmp t] 1 st = finJ P (m :: md) t st (st.get t) := by
  unfold finJ
  split
  · rfl
  · rename_i h
    exact finish_io1 hm (by simpa using h)
theorem finJ_1 : finish P [.io] [.tmp t] 1 st = finJ P [.io] t st (st.get t) := finJ_io _ _ rfl
theorem finJ_2 : finish P [.io, .ro] [.tmp t] 1 st = finJ P [.io, .ro] t st (st.get t) := finJ_io _ _ rfl
theorem finJ_3 : finish P [.io, .ro, .ro] [.tmp t] 1 st = finJ P [.io, .ro, .ro] t st (st.get t) := finJ_io _ _ rfl
theorem finJ_4 : finish P [.io, .ro, .ro, .ro] [.tmp t] 1 st = finJ P [.io, .ro, .ro, .ro] t st (st.get t) := finJ_io _ _ rfl
variable {md : List Mode}
theorem finJ_int {k : IntKind} {i : Int} : finJ P md t st (.int k i) = finI st (.int k i) := rfl
theorem finJ_bool {c : Bool} : finJ P md t st (.bool c) = finI st (.bool c) := rfl
theorem finJ_str {s : ByteArray} : finJ P md t st (.str s) = finI st (.str s) := rfl
theorem finJ_nils : finJ P md t st .nils = finI st .nils := rfl
theorem finJ_agg {cs : List AV} : finJ P md t st (.agg cs) = finI st (.agg cs) := rfl
theorem finJ_own {id e sz : Nat} {fz : Bool} {xs : List AV} : finJ P md t st (.own id fz e sz xs) = finI st (.own id fz e sz xs) := rfl
theorem finJ_sl {fl : Bool} {xs : List AV} : finJ P md t st (.sl fl xs) = finI st (.sl fl xs) := rfl
theorem finJ_tup {cs : List AV} : finJ P md t st (.tup cs) = finI st (.tup cs) := rfl
end
noncomputable def encR (id : Nat) (s : List Choice) : AV := if s = [] then .nils else .own id false 49 3 (s.map (Choice.enc true))
noncomputable def rowsN (id : Nat) (s : List Choice) : List Nat := if s = [] then [] else [id]
noncomputable def rowsL (s : List Choice) : Nat := if s = [] then 0 else 1
theorem encR_nil {id : Nat} : encR id [] = .nils := if_pos rfl
theorem encR_ne {id : Nat} {s : List Choice} (h : s ≠ []) : encR id s = .own id false 49 3 (s.map (Choice.enc true)) := if_neg h
theorem encR_one {id : Nat} {c : Choice} : encR id [c] = .own id false 49 3 [c.enc true] := if_neg (by simp)
theorem rowsN_nil {id : Nat} : rowsN id [] = [] := if_pos rfl
theorem rowsN_ne {id : Nat} {s : List Choice} (h : s ≠ []) : rowsN id s = [id] := if_neg h
theorem rowsL_nil : rowsL [] = 0 := if_pos rfl
theorem rowsL_ne {s : List Choice} (h : s ≠ []) : rowsL s = 1 := if_neg h
theorem append_ne {s : List Choice} {c : Choice} : s ++ [c] ≠ [] := by simp
theorem rows_encR {id : Nat} {s : List Choice} : (encR id s).rows = rowsN id s := by unfold encR rowsN; split <;> rfl
theorem boxes_encR {id : Nat} {s : List Choice} : (encR id s).boxes = [] := by unfold encR; split <;> rfl
theorem isCell_encR {id : Nat} {s : List Choice} : (encR id s).isCell = true := by unfold encR; split <;> rfl
theorem len_rowsN {id : Nat} {s : List Choice} : (rowsN id s).length = rowsL s := by unfold rowsN rowsL; split <;> rfl
theorem dedup_rowsN {id : Nat} {s : List Choice} : dedup (rowsN id s) = rowsN id s := by unfold rowsN; split <;> rfl
theorem nodup_rowsN {id : Nat} {s : List Choice} : nodupB (rowsN id s) = true := by unfold rowsN; split <;> rfl
theorem all_rowsN {id : Nat} {s : List Choice} : ((rowsN id s).all fun r => decide (r ∈ rowsN id s)) = true := by unfold rowsN; split <;> simp
theorem any_encR {id : Nat} {s : List Choice} : AV.any isBad (encR id s) = false := by unfold encR; split <;> rfl
theorem mapO_encR {id : Nat} {s : List Choice} {p : Nat → Nat → AV} {h : Bool → Nat → Bool → Nat → Nat → List AV → Nat → Nat → AV} : AV.mapO (fun i fz e sz xs => .own (idx (rowsN id s) i) fz e sz xs) p h (fun _ => .nils) (encR id s) = encR 0 s := by
  unfold encR rowsN
  split
  · rfl
  · simp [AV.mapO, idx]
theorem back_rowsN {nid id : Nat} {s : List Choice} {ps : List (Nat × AV)} {st : St} : St.back nid (rowsN id s) ps st = st.mapO (backO nid (rowsN id s) ps) .ptr (backE (rowsN id s)) := rfl
theorem scals_Choice (m : List Choice) : AV.scals (m.map (Choice.enc true)) = true := by
  induction m with
  | nil => rfl
  | cons c m ih => simp -implicitDefEqProofs only [List.map_cons, AV.scals, enc_Choice, AV.scal, Bool.true_and]; exact ih
theorem ref_encR {id : Nat} {s : List Choice} : AV.any isRef (encR id s) = false := by
  unfold encR
  split
  · rfl
  · simp -implicitDefEqProofs only [AV.any, isRef, scals_Choice, Bool.not_true]
theorem scal_encR {s : List Choice} : noref (encR 0 s) = true := by unfold noref; rw [ref_encR]; rfl
theorem small_rowsN {s : List Choice} : ((rowsN 0 s).all fun i => decide (i < 8)) = true := by unfold rowsN; split <;> simp
theorem imp_encR {nid id : Nat} {s : List Choice} {p : Nat → Nat → AV} {h : Bool → Nat → Bool → Nat → Nat → List AV → Nat → Nat → AV} : AV.mapO (fun i fz e sz xs => .own (nid + i) fz e sz xs) p h (fun _ => .nils) (encR id s) = encR (nid + id) s := by
  unfold encR
  split <;> rfl
theorem lend_encR4 {bx : Nat → Option (List AV)} {id : Nat} {s : List Choice} : lend bx 4 (encR id s) = .sl true (s.map (Choice.enc true)) := by
  unfold encR
  split
  · rename_i h
    subst h
    rfl
  · simp -implicitDefEqProofs only [lend, AV.mapO, shuts_Choice]
theorem give_build {Φ : Phi} {nid f n id b : Nat} {dst : Option Nat} {st : St} {ns ns1 : List Choice} {root lo : Int} {u v w : AV} (hu : u.any isPtr = false) (hur : u.rows = []) (hv : v.any isPtr = false) (hvr : v.rows = []) (hw : w.any isPtr = false) (hwr : w.rows = []) (hul : lend st.box 4 u = u) (hvl : lend st.box 4 v = v) (hwl : lend st.box 4 w = w)
    (hb : st.box b = some [.int .i64 (n : Nat), encR id ns, .int .i64 root])
    (hΦ : Φ f [.ptr 0 0, u, v, w] [[.int .i64 (n : Nat), encR 0 ns, .int .i64 root]] = some (.int .i64 lo, [[.int .i64 (n : Nat), encR 0 ns1, .int .i64 root]])) :
    evCall Φ [.io, .ro, .ro, .ro] nid f [.ptr b 0, u, v, w] [] dst st = (((st.back nid (rowsN id ns) []).setBox b [.int .i64 (n : Nat), encR nid ns1, .int .i64 root]).put dst (.int .i64 lo)) := by
  have hsc : AV.scals (ns1.map (Choice.enc true)) = true := scals_Choice _
  rcases Classical.em (ns = []) with e0 | e0 <;> rcases Classical.em (ns1 = []) with e1 | e1
  all_goals
    simp -implicitDefEqProofs only [encR_nil, rowsN_nil, encR_ne, rowsN_ne, e0, e1, ne_eq, not_false_eq_true] at hb hΦ ⊢
    simp -implicitDefEqProofs only [W3, ↓D3, ↓DA, ↓DP, ↓DC, hb, hu, hur, hv, hvr, hw, hwr, hul, hvl, hwl, hΦ, hsc, look_nil, evCall_io1, evCall_io2, evCall_io3, evCall_io4, finJ_1, finJ_2, finJ_3, finJ_4, finJ_int, finJ_bool, finJ_str, finJ_nils, finJ_agg, finJ_own, finJ_sl, finJ_tup, look_cons, reduceCtorEq, evCall_mutOwn, evCall_mutAgg, evGive, giveRows, ioBoxes, mutArgs, roArgs, handArg, mutSlots, isPtrB, pairs, pairss, back_nil, back_cons, backO, backE, setBoxes, importB, mode_mut, mode_give, mode_io, mode_ro, List.zip_cons_cons, List.zip_nil_left, List.zip_nil_right, ite_self, ite_true, ite_false, finish_give, finish_mut1, finish_io0, finish_io2, finish_io3, finish_ioc, finI, finC, finW_ptr, SH, Int.reduceToNat, id_eq, Int.reduceBEq, Int.reduceLE, Int.reduceLT, Nat.reduceAdd, Nat.reduceEqDiff, Nat.reduceLT, Nat.reduceLeDiff, Nat.reduceMul, Nat.reduceSub, reduceIte]
noncomputable def bldJoin (a : Nat) (lo hi : Int) (ns : List Choice) : Int × List Choice :=
  if (lo == hi) = true then (lo, ns) else
  if 0 ≤ indexBy (fun c => decide ((⟨(a : Nat), lo, hi⟩ : Choice) = c)) 0 ns then (indexBy (fun c => decide ((⟨(a : Nat), lo, hi⟩ : Choice) = c)) 0 ns, ns)
  else ((ns.length : Nat), ns ++ [⟨(a : Nat), lo, hi⟩])
theorem bldJoin_len (a : Nat) (lo hi : Int) (ns : List Choice) : (bldJoin a lo hi ns).2.length ≤ ns.length + 1 := by
  unfold bldJoin
  split
  · simp only; omega
  · split
    · simp only; omega
    · simp -implicitDefEqProofs only [List.length_append, List.length_singleton]; omega
noncomputable def bld (table : List Bool) : Nat → Nat → Nat → List Choice → Int × List Choice
  | 0, a, g, ns => (if table.getD g false = true then -1 else -2, ns)
  | m + 1, a, g, ns => bldJoin a (bld table m (a + 1) g ns).1 (bld table m (a + 1) (g + 2 ^ a) (bld table m (a + 1) g ns).2).1 (bld table m (a + 1) (g + 2 ^ a) (bld table m (a + 1) g ns).2).2
theorem bld_len (table : List Bool) : ∀ (m a g : Nat) (ns : List Choice), (bld table m a g ns).2.length ≤ ns.length + (2 ^ m - 1)
  | 0, a, g, ns => by simp [bld]
  | m + 1, a, g, ns => by
    have h1 := bld_len table m (a + 1) g ns
    have h2 := bld_len table m (a + 1) (g + 2 ^ a) (bld table m (a + 1) g ns).2
    have h3 : 0 < 2 ^ m := Nat.pow_pos (by decide)
    have h4 : 2 ^ (m + 1) = 2 * 2 ^ m := by rw [Nat.pow_succ]; omega
    have h5 := bldJoin_len a (bld table m (a + 1) g ns).1 (bld table m (a + 1) (g + 2 ^ a) (bld table m (a + 1) g ns).2).1 (bld table m (a + 1) (g + 2 ^ a) (bld table m (a + 1) g ns).2).2
    simp -implicitDefEqProofs only [bld]
    omega
end Go.Proofs.Ytclpcglblcmcoaa.Flat
