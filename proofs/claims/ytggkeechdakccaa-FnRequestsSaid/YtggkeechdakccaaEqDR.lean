/-
Roles of a person.
-/
import Derived.Test.YtggkeechdakccaaEqU
import Derived.Test.YtggkeechdakccaaEqR
set_option linter.unusedVariables false
set_option linter.unusedSimpArgs false
set_option maxRecDepth 10000
namespace Go.Proofs.Ytggkeechdakccaa.Flat
theorem r_sort (k : Nat) (hk : 1 ≤ k) (e : Nat) (zs : List Int) (h : zs.length < 4611686018427387904) : run E noExt k 60 [.own 0 false e 1 (zs.map (AV.int .i64))] [] = some (.tup [], [[.own 0 false e 1 ((ascending zs).map (AV.int .i64))]]) := by
  obtain ⟨k, rfl⟩ : ∃ j, k = j + 1 := ⟨k - 1, by omega⟩
  simp -implicitDefEqProofs only [run, ext_60, sortExt, intsOf_map, Option.bind_some, h, if_true]
theorem r_compact (k : Nat) (hk : 1 ≤ k) (e : Nat) (zs : List Int) : run E noExt k 61 [.own 0 false e 1 (zs.map (AV.int .i64))] [] = some (.own 0 false e 1 ((Lib.compact zs).map (AV.int .i64)), []) := by
  obtain ⟨k, rfl⟩ : ∃ j, k = j + 1 := ⟨k - 1, by omega⟩
  simp -implicitDefEqProofs only [run, ext_61, compactExt, intsOf_map, Option.map_some]
def underB (m : List Bool) (r : Int) (n : Nat) : List Int := ((List.range n).filter fun (i : Nat) => (m[i]?).getD false || ((i : Int) == r)).map Int.ofNat
theorem underB_succ {m : List Bool} {r : Int} {n : Nat} : underB m r (n + 1) = if ((m[n]?).getD false || ((n : Int) == r)) = true then underB m r n ++ [(n : Int)] else underB m r n := by
  unfold underB
  rw [List.range_succ, List.filter_append]
  by_cases h : ((m[n]?).getD false || ((n : Int) == r)) = true
  · rw [if_pos h]; simp [h]
  · rw [if_neg h]; simp [h]
theorem underB_len (m : List Bool) (r : Int) (n : Nat) : (underB m r n).length ≤ n := by
  unfold underB
  rw [List.length_map]
  exact Nat.le_trans (List.length_filter_le _ _) (by simp)
theorem underB_eq {l : List Includes} {r : Int} (hr : inR r 0 5 = true) : underB (Roles.ends (l.map pairOf) (List.replicate 6 false, [r])) r 6 = rolesUnder l r := by
  have h1 : 0 ≤ r ∧ r ≤ 5 := by simpa [inR] using hr
  obtain ⟨h2, h3⟩ := Roles.start_iff (l := l.map pairOf) (r := r) hr
  unfold underB rolesUnder under
  rw [if_pos hr]
  congr 1
  refine List.filter_congr fun i hi => ?_
  have hi6 : i < 6 := List.mem_range.1 hi
  rw [Bool.eq_iff_iff, ← has_iff (m := Roles.marks _ _), Roles.marks_iff (by omega) i, Roles.reach_iff, ← h3 i, has_iff]
  simp -implicitDefEqProofs only [Bool.or_eq_true, beq_iff_eq]
  constructor
  · rintro (h | h)
    · exact .inr h
    · exact .inl (by omega)
  · rintro (h | h)
    · exact .inr (by omega)
    · exact .inl h
theorem r_impl_RolesUnder {fl : Bool} (k : Nat) (hk : 281474976710656 + 4 ≤ k) (l : List Includes) (hl : l.length ≤ 140737488355328) (r : Int) :
    run E noExt k 59 [.sl fl (l.map (Includes.enc fl)), .int .i64 r] [] = some (.own 0 false 3 1 ((rolesUnder l r).map (AV.int .i64)), []) := by
  have c0 := r_impl_isRole (k - 1) (by omega)
  have c1 := r_impl_below (fl := fl) (k - 1) (by omega) l hl r
  obtain ⟨k, rfl⟩ : ∃ j, k = j + 1 := ⟨k - 1, by omega⟩
  rw [run_succ rfl rfl, body_eq (nt := 32) (fn := Go.Proofs.Try.f59) (by kernel_rfl) rfl rfl rfl rfl rfl rfl rfl rfl]
  simp -implicitDefEqProofs only [Nat.add_sub_cancel] at c0 c1
  by_cases hr : inR r 0 5 = true
  · rw [← underB_eq hr]
    have h6 := (Roles.start_iff (l := l.map pairOf) (r := r) hr).1
    generalize Roles.ends (l.map pairOf) (List.replicate 6 false, [r]) = m at h6 c1
    have hps := plainS_bools m
    simp -implicitDefEqProofs only [W4, ↓D4, ↓DA, ↓DP, ↓DC, Go.Proofs.Try.f59, c0, c1, hr, hps, ifEv_bool, Int.reduceToNat, id_eq, Int.reduceBEq, Int.reduceLE, Int.reduceLT, SH, dedup, nodupB, idx, AV.rows, AV.rowss, AV.mapO, AV.mapOs, Nat.reduceAdd, Nat.reduceEqDiff, Nat.reduceLT, Nat.reduceLeDiff, Nat.reduceMul, Nat.reduceSub, reduceIte]
    rw [ev_loop]
    refine Eq.trans (loop_list (Q := fun (_ : Unit) z => thenEnd E.P [] _ 0 (thenEv E _ _ _ _ _ (outOf 0 z)) = some (.own 0 false 3 1 ((underB m r 6).map (AV.int .i64)), [])) (List.range 6) goStep id
      (fun i _ => { sl := [(1, .int .i64 r), (5, .own 0 false 3 1 ((underB m r i).map (AV.int .i64))), (15, .agg (m.map AV.bool)), (16, .int .i64 (i : Nat))], bx := [], nx := 1, nt := 32 })
      (fun _ _ => True) () ?_ ?_ (by simp; omega) trivial ?_) ?_
    · intro _ _
      have h7 : (List.range 6).length = 6 := rfl
      have n6 : ((6 : Nat) : Int) = 6 := rfl
      simp -implicitDefEqProofs only [W3, ↓D3, ↓DA, ↓DP, ↓DC, h7, n6, leaf_some, isNormal, ifEv_bool, Int.reduceToNat, id_eq, Int.reduceBEq, Int.reduceLE, Int.reduceLT, SH, Nat.reduceAdd, Nat.reduceEqDiff, Nat.reduceLT, Nat.reduceLeDiff, Nat.reduceMul, Nat.reduceSub, reduceIte]
    · intro pre x r' _ hs' _
      have hp5 : pre.length ≤ 5 := by have := congrArg List.length hs'; simp at this; omega
      have h5 : ((pre.length : Int) < 6) := by omega
      have h5' : decide ((pre.length : Int) < 6) = true := by simp; omega
      have n6 : ((6 : Nat) : Int) = 6 := rfl
      have hget := idx_bools (m := m) (i := pre.length) (by omega)
      have hw1 : IntKind.i64.wrap ((pre.length : Int) + 1) = ((pre.length + 1 : Nat) : Int) := by rw [IntWalk.i64_in _ (by omega)]; omega
      have hu := underB_len m r pre.length
      have hA : ((underB m r pre.length).length + 1) * 8 ≤ 140737488355328 := by omega
      have hB : (underB m r pre.length).length ≤ 9223372036854775806 := by omega
      have hpl : plains [AV.int IntKind.i64 (pre.length : Int)] = true := rfl
      clear hs'
      have hsc := underB_succ (m := m) (r := r) (n := pre.length)
      generalize hv : (m[pre.length]?).getD false = v at hget hsc
      generalize hv2 : ((pre.length : Int) == r) = v2 at hsc
      cases v <;> cases v2 <;> simp -implicitDefEqProofs only [Bool.or_self, Bool.or_false, Bool.or_true, Bool.false_or, Bool.true_or, Bool.false_eq_true, if_false, if_true] at hsc
      all_goals
        simp -implicitDefEqProofs only [W3, ↓D3, ↓DA, ↓DP, ↓DC, QX, h5, h5', n6, hget, hw1, hu, hA, hB, hpl, hsc, hv2, goStep, op_index, opP_index, evIndex, List.map_append, rowss_bools, boxess_bools, mapOs_bools, SH, keep_59_5, leaf_some, isNormal, Int.reduceToNat, id_eq, Int.reduceBEq, Int.reduceLE, Int.reduceLT, Nat.reduceAdd, Nat.reduceEqDiff, Nat.reduceLT, Nat.reduceLeDiff, Nat.reduceMul, Nat.reduceSub, reduceIte]
        repeat' (split <;> (rename_i h; (try simp -implicitDefEqProofs only [Bool.not_eq_true', Bool.not_eq_false', decide_eq_true_eq, decide_eq_false_iff_not] at h); (try simp -implicitDefEqProofs only [W3, ↓D3, ↓DA, ↓DP, ↓DC, QX, *, h5, h5', n6, hget, hw1, hu, hA, hB, hpl, hsc, hv2, goStep, op_index, opP_index, evIndex, List.map_append, rowss_bools, boxess_bools, mapOs_bools, SH, keep_59_5, leaf_some, isNormal, Int.reduceToNat, id_eq, Int.reduceBEq, Int.reduceLE, Int.reduceLT, Nat.reduceAdd, Nat.reduceEqDiff, Nat.reduceLT, Nat.reduceLeDiff, Nat.reduceMul, Nat.reduceSub, reduceIte])))
    · simp -implicitDefEqProofs only [firstRegion]
      rw [keep_59_5]
      have hu0 : underB m r 0 = [] := rfl
      simp -implicitDefEqProofs only [W3, ↓D3, ↓DA, ↓DP, ↓DC, hu0, rowss_bools, boxess_bools, mapOs_bools, Int.reduceToNat, id_eq, Int.reduceBEq, Int.reduceLE, Int.reduceLT, SH, Nat.reduceAdd, Nat.reduceEqDiff, Nat.reduceLT, Nat.reduceLeDiff, Nat.reduceMul, Nat.reduceSub, reduceIte]
    · rfl
  · have hr' : inR r 0 5 = false := by simpa using hr
    simp -implicitDefEqProofs only [W3, ↓D3, ↓DA, ↓DP, ↓DC, rolesUnder, hr', if_false, Go.Proofs.Try.f59, c0, ifEv_bool, Int.reduceToNat, id_eq, Int.reduceBEq, Int.reduceLE, Int.reduceLT, SH, Nat.reduceAdd, Nat.reduceEqDiff, Nat.reduceLT, Nat.reduceLeDiff, Nat.reduceMul, Nat.reduceSub, reduceIte]
def roleFact (person now age : Int) (f : Fact) : Bool := f.kind == 1 && (f.subject == person && holdsAt f now age)
def markAll (m : List Bool) (ws : List Int) : List Bool := ws.foldl (fun m c => m.set c.toNat true) m
theorem markAll_len {ws : List Int} : ∀ {m : List Bool}, (markAll m ws).length = m.length := by
  induction ws with
  | nil => intro m; rfl
  | cons c ws ih => intro m; unfold markAll at ih ⊢; rw [List.foldl_cons, ih, List.length_set]
noncomputable def rolesStep (l : List Includes) (person now age : Int) (_ : Nat) (f : Fact) (m : List Bool) : Sum (List Bool) (List Bool) := .inr (if roleFact person now age f = true then markAll m (rolesUnder l f.value) else m)
noncomputable def rolesM (l : List Includes) (s : List Fact) (person now age : Int) : List Bool := loopL (rolesStep l person now age) id 0 s (List.replicate 6 false)
noncomputable def rolesOf (l : List Includes) (s : List Fact) (person now age : Int) : List Int := under (rolesM l s person now age) 6
noncomputable def rolesL (l : List Includes) (s : List Fact) (person now age : Int) : List Int := (s.filter (roleFact person now age)).flatMap fun f => rolesUnder l f.value
theorem under_range {m : List Bool} {n : Nat} {x : Int} (h : x ∈ under m n) : 0 ≤ x ∧ x < n := by
  unfold under at h
  obtain ⟨i, hi, rfl⟩ := List.mem_map.1 h
  have := List.mem_range.1 (List.mem_filter.1 hi).1
  show 0 ≤ ((i : Nat) : Int) ∧ ((i : Nat) : Int) < n
  omega
theorem rolesUnder_range {l : List Includes} {r x : Int} (h : x ∈ rolesUnder l r) : 0 ≤ x ∧ x < 6 := by
  unfold rolesUnder at h
  split at h
  · exact under_range h
  · simp at h
theorem markAll_iff {ws : List Int} (hw : ∀ x ∈ ws, 0 ≤ x ∧ x < 6) : ∀ {m : List Bool} (hm : m.length = 6) (i : Nat), Roles.Has (markAll m ws) i ↔ Roles.Has m i ∨ (i : Int) ∈ ws := by
  induction ws with
  | nil => intro m hm i; simp [markAll]
  | cons c ws ih =>
    intro m hm i
    have hc := hw c (by simp)
    have := ih (fun x hx => hw x (by simp [hx])) (m := m.set c.toNat true) (by rw [List.length_set]; exact hm) i
    unfold markAll at this ⊢
    rw [List.foldl_cons, this, List.mem_cons]
    unfold Roles.Has
    rw [List.getElem?_set]
    by_cases e : c.toNat = i
    · rw [if_pos e, if_pos (by omega)]
      have : (i : Int) = c := by omega
      simp [this]
    · rw [if_neg e]
      have : (i : Int) ≠ c := by omega
      simp [this]
theorem rolesLoop (l : List Includes) (person now age : Int) : ∀ (s : List Fact) (j : Nat) (m : List Bool), m.length = 6 → (loopL (rolesStep l person now age) id j s m).length = 6 ∧ ∀ i : Nat, Roles.Has (loopL (rolesStep l person now age) id j s m) i ↔ Roles.Has m i ∨ (i : Int) ∈ rolesL l s person now age
  | [], j, m, hm => ⟨hm, fun i => by simp [loopL, rolesL]⟩
  | f :: r, j, m, hm => by
    simp -implicitDefEqProofs only [loopL, rolesStep]
    by_cases h : roleFact person now age f = true
    · rw [if_pos h]
      obtain ⟨h1, h2⟩ := rolesLoop l person now age r (j + 1) (markAll m (rolesUnder l f.value)) (by rw [markAll_len]; exact hm)
      refine ⟨h1, fun i => ?_⟩
      rw [h2, markAll_iff (fun x hx => rolesUnder_range hx) hm]
      unfold rolesL
      rw [List.filter_cons_of_pos h, List.flatMap_cons, List.mem_append, or_assoc]
    · rw [if_neg h]
      obtain ⟨h1, h2⟩ := rolesLoop l person now age r (j + 1) m hm
      refine ⟨h1, fun i => ?_⟩
      rw [h2]
      unfold rolesL
      rw [List.filter_cons_of_neg (by simpa using h)]
theorem under_strict (m : List Bool) (n : Nat) : (under m n).Pairwise (· < ·) := by
  unfold under
  rw [List.pairwise_map]
  refine List.Pairwise.filter _ ?_
  exact List.pairwise_lt_range.imp fun h => by show ((_ : Nat) : Int) < ((_ : Nat) : Int); omega
theorem rolesOf_eq (l : List Includes) (s : List Fact) (person now age : Int) : sortUniq (rolesL l s person now age) = rolesOf l s person now age := by
  obtain ⟨h1, h2⟩ := rolesLoop l person now age s 0 (List.replicate 6 false) (by simp)
  refine sortUniq_eq (under_strict _ _) fun x => ?_
  have hno : ∀ i, ¬ Roles.Has (List.replicate 6 false) i := by
    intro i h
    unfold Roles.Has at h
    rw [List.getElem?_replicate] at h
    split at h <;> simp at h
  unfold rolesOf under rolesM
  simp -implicitDefEqProofs only [List.mem_map, List.mem_filter, List.mem_range]
  constructor
  · rintro ⟨i, ⟨_, hi⟩, rfl⟩
    exact ((h2 i).1 (has_iff.2 hi)).resolve_left (hno i)
  · intro hx
    have hr : 0 ≤ x ∧ x < 6 := by
      unfold rolesL at hx
      obtain ⟨f, _, hf⟩ := List.mem_flatMap.1 hx
      exact rolesUnder_range hf
    have e : ((x.toNat : Nat) : Int) = x := by omega
    refine ⟨x.toNat, ⟨by omega, has_iff.1 ((h2 x.toNat).2 (.inr (by rw [e]; exact hx)))⟩, e⟩
theorem all_tt {α : Type} {l : List α} : (l.all fun _ => true) = true := List.all_eq_true.2 fun _ _ => rfl
noncomputable def gatherStep (l : List Includes) (person now age : Int) (_ : Nat) (f : Fact) (out : List Int) : Sum (List Int) (List Int) := .inr (if roleFact person now age f = true then out ++ rolesUnder l f.value else out)
theorem gatherLoop (l : List Includes) (person now age : Int) : ∀ (s : List Fact) (i : Nat) (out : List Int), loopL (gatherStep l person now age) id i s out = out ++ rolesL l s person now age
  | [], i, out => by simp [loopL, rolesL]
  | f :: r, i, out => by
    simp -implicitDefEqProofs only [loopL, gatherStep]
    rw [gatherLoop l person now age r]
    unfold rolesL
    by_cases h : roleFact person now age f = true
    · rw [if_pos h, List.filter_cons_of_pos h, List.flatMap_cons, List.append_assoc]
    · rw [if_neg h, List.filter_cons_of_neg (by simpa using h)]
theorem r_impl_RolesOf {fl f2 : Bool} (k : Nat) (hk : 281474976710656 + 8 ≤ k) (l : List Includes) (hl : l.length ≤ 140737488355328) (s : List Fact) (hs0 : s.length ≤ 1099511627776) (person now age : Int) :
    run E noExt k 46 [.sl fl (l.map (Includes.enc fl)), .sl f2 (s.map (Fact.enc f2)), .int .i64 person, .int .i64 now, .int .i64 age] [] = some (.own 0 false 3 1 ((rolesOf l s person now age).map (AV.int .i64)), []) := by
  have hs : s.length ≤ 140737488355328 := by omega
  have c1 := r_impl_HoldsAt (fl := true) (k - 1) (by omega)
  have c2 := r_impl_RolesUnder (fl := fl) (k - 1) (by omega) l hl
  have c4 := r_sort (k - 1) (by omega) 3
  have c5 := r_compact (k - 1) (by omega) 3
  obtain ⟨k, rfl⟩ : ∃ j, k = j + 1 := ⟨k - 1, by omega⟩
  rw [run_succ rfl rfl, body_eq (nt := 47) (fn := Go.Proofs.Try.f46) (by kernel_rfl) rfl rfl rfl rfl rfl rfl rfl rfl]
  simp -implicitDefEqProofs only [Nat.add_sub_cancel, enc_Fact] at c1 c2 c4 c5
  simp -implicitDefEqProofs only [W4, ↓D4, ↓DA, ↓DP, ↓DC, Go.Proofs.Try.f46, ifEv_bool, Int.reduceToNat, id_eq, Int.reduceBEq, Int.reduceLE, Int.reduceLT, SH, dedup, nodupB, idx, AV.rows, AV.rowss, AV.mapO, AV.mapOs, Nat.reduceAdd, Nat.reduceEqDiff, Nat.reduceLT, Nat.reduceLeDiff, Nat.reduceMul, Nat.reduceSub, reduceIte]
  rw [ev_loop]
  refine loop_list (Q := fun g z => g = rolesL l s person now age → thenEnd E.P [] _ 0 (thenEv E _ _ _ _ _ (outOf 0 z)) = some (.own 0 false 3 1 ((rolesOf l s person now age).map (AV.int .i64)), [])) s (gatherStep l person now age) id
    (fun i out => { sl := [(0, .sl fl (l.map (Includes.enc fl))), (2, .int .i64 person), (3, .int .i64 now), (4, .int .i64 age), (11, .own 0 false 3 1 (out.map (AV.int .i64))), (15, .sl f2 (s.map (Fact.enc f2))), (16, .int .i64 (s.length : Nat)), (17, .int .i64 (i : Nat))], bx := [], nx := 1, nt := 47 })
    (fun i out => out.length ≤ 6 * i) [] ?_ ?_ (by omega) (by simp) ?_ (gatherLoop _ _ _ _ _ _ _)
  · intro out ho
    have c6 := c4 out (by omega)
    have c7 := c5 (ascending out)
    simp -implicitDefEqProofs only [W3, ↓D3, ↓DA, ↓DP, ↓DC, leaf_some, isNormal, ifEv_bool, c6, c7, scals_ints, Int.reduceToNat, id_eq, Int.reduceBEq, Int.reduceLE, Int.reduceLT, look_cons, reduceCtorEq, evCall, evGive, giveRows, ioBoxes, mutArgs, roArgs, handArg, mutSlots, isPtrB, pairs, pairss, back_nil, back_cons, backO, backE, setBoxes, importB, mode_mut, mode_give, mode_io, mode_ro, List.zip_cons_cons, List.zip_nil_left, List.zip_nil_right, ite_self, ite_true, ite_false, finish_give, finish_mut1, finish_io0, finish_io1, finish_io2, finish_io3, finish_ioc, finI, finC, finW_ptr, SH, Nat.reduceAdd, Nat.reduceEqDiff, Nat.reduceLT, Nat.reduceLeDiff, Nat.reduceMul, Nat.reduceSub, reduceIte]
    intro he
    rw [← rolesOf_eq, ← he]
    rfl
  · intro pre x r' out hs' ho
    have hx := (at_row hs' hs).1; have hc := (at_row hs' hs).2.1; have hlt := (at_row hs' hs).2.2.1; have hw1 := (at_row hs' hs).2.2.2.1; have hl9 := (at_row hs' hs).2.2.2.2
    clear hs'
    have c3 := c1 x now age
    have hst : gatherStep l person now age pre.length x out = .inr (if roleFact person now age x = true then out ++ rolesUnder l x.value else out) := rfl
    have hrf : roleFact person now age x = (x.kind == 1 && (x.subject == person && holdsAt x now age)) := rfl
    have hi : out.length ≤ 6 * (pre.length + 1) := by omega
    cases e1 : (x.kind == 1) with
    | false =>
      simp -implicitDefEqProofs only [e1, Bool.false_and] at hrf
      simp -implicitDefEqProofs only [hrf, Bool.false_eq_true, if_false] at hst
      simp -implicitDefEqProofs only [W3, ↓D3, ↓DA, ↓DP, ↓DC, QX, enc_Fact, hx, hlt, hw1, e1, hst, hi, SH, keep_46_3, leaf_some, isNormal, Int.reduceToNat, id_eq, Int.reduceBEq, Int.reduceLE, Int.reduceLT, Nat.reduceAdd, Nat.reduceEqDiff, Nat.reduceLT, Nat.reduceLeDiff, Nat.reduceMul, Nat.reduceSub, reduceIte]
      repeat' (split <;> (rename_i h; (try simp -implicitDefEqProofs only [Bool.not_eq_true', Bool.not_eq_false', decide_eq_true_eq, decide_eq_false_iff_not] at h); (try simp -implicitDefEqProofs only [W3, ↓D3, ↓DA, ↓DP, ↓DC, QX, *, enc_Fact, hx, hlt, hw1, e1, hst, hi, SH, keep_46_3, leaf_some, isNormal, Int.reduceToNat, id_eq, Int.reduceBEq, Int.reduceLE, Int.reduceLT, Nat.reduceAdd, Nat.reduceEqDiff, Nat.reduceLT, Nat.reduceLeDiff, Nat.reduceMul, Nat.reduceSub, reduceIte])))
    | true =>
      cases e2 : (x.subject == person) with
      | false =>
        simp -implicitDefEqProofs only [e1, e2, Bool.false_and, Bool.and_false] at hrf
        simp -implicitDefEqProofs only [hrf, Bool.false_eq_true, if_false] at hst
        simp -implicitDefEqProofs only [W3, ↓D3, ↓DA, ↓DP, ↓DC, QX, enc_Fact, hx, hlt, hw1, e1, e2, hst, hi, SH, keep_46_3, leaf_some, isNormal, Int.reduceToNat, id_eq, Int.reduceBEq, Int.reduceLE, Int.reduceLT, Nat.reduceAdd, Nat.reduceEqDiff, Nat.reduceLT, Nat.reduceLeDiff, Nat.reduceMul, Nat.reduceSub, reduceIte]
        repeat' (split <;> (rename_i h; (try simp -implicitDefEqProofs only [Bool.not_eq_true', Bool.not_eq_false', decide_eq_true_eq, decide_eq_false_iff_not] at h); (try simp -implicitDefEqProofs only [W3, ↓D3, ↓DA, ↓DP, ↓DC, QX, *, enc_Fact, hx, hlt, hw1, e1, e2, hst, hi, SH, keep_46_3, leaf_some, isNormal, Int.reduceToNat, id_eq, Int.reduceBEq, Int.reduceLE, Int.reduceLT, Nat.reduceAdd, Nat.reduceEqDiff, Nat.reduceLT, Nat.reduceLeDiff, Nat.reduceMul, Nat.reduceSub, reduceIte])))
      | true =>
        cases e3 : holdsAt x now age with
        | false =>
          rw [e3] at c3
          simp -implicitDefEqProofs only [e1, e2, e3, Bool.and_false] at hrf
          simp -implicitDefEqProofs only [hrf, Bool.false_eq_true, if_false] at hst
          simp -implicitDefEqProofs only [W3, ↓D3, ↓DA, ↓DP, ↓DC, QX, enc_Fact, hx, hlt, hw1, c3, e1, e2, hst, hi, SH, keep_46_3, leaf_some, isNormal, Int.reduceToNat, id_eq, Int.reduceBEq, Int.reduceLE, Int.reduceLT, Nat.reduceAdd, Nat.reduceEqDiff, Nat.reduceLT, Nat.reduceLeDiff, Nat.reduceMul, Nat.reduceSub, reduceIte]
          repeat' (split <;> (rename_i h; (try simp -implicitDefEqProofs only [Bool.not_eq_true', Bool.not_eq_false', decide_eq_true_eq, decide_eq_false_iff_not] at h); (try simp -implicitDefEqProofs only [W3, ↓D3, ↓DA, ↓DP, ↓DC, QX, *, enc_Fact, hx, hlt, hw1, c3, e1, e2, hst, hi, SH, keep_46_3, leaf_some, isNormal, Int.reduceToNat, id_eq, Int.reduceBEq, Int.reduceLE, Int.reduceLT, Nat.reduceAdd, Nat.reduceEqDiff, Nat.reduceLT, Nat.reduceLeDiff, Nat.reduceMul, Nat.reduceSub, reduceIte])))
        | true =>
          rw [e3] at c3
          simp -implicitDefEqProofs only [e1, e2, e3, Bool.and_self] at hrf
          simp -implicitDefEqProofs only [hrf, if_true] at hst
          have c8 := c2 x.value
          have hu := rolesUnder_len l x.value
          have hA : (out.length + (rolesUnder l x.value).length) * 8 ≤ 140737488355328 := by omega
          have hB : out.length + (rolesUnder l x.value).length ≤ 9223372036854775807 := by omega
          have hC : (out ++ rolesUnder l x.value).length ≤ 6 * (pre.length + 1) := by rw [List.length_append]; omega
          simp -implicitDefEqProofs only [W3, ↓D3, ↓DA, ↓DP, ↓DC, QX, enc_Fact, hx, hlt, hw1, c3, c8, e1, e2, hst, hi, hA, hB, hC, List.all_map, Function.comp_def, all_tt, plains_ints, scals_ints, List.map_append, SH, keep_46_3, leaf_some, isNormal, Int.reduceToNat, id_eq, Int.reduceBEq, Int.reduceLE, Int.reduceLT, Nat.reduceAdd, Nat.reduceEqDiff, Nat.reduceLT, Nat.reduceLeDiff, Nat.reduceMul, Nat.reduceSub, reduceIte]
          repeat' (split <;> (rename_i h; (try simp -implicitDefEqProofs only [Bool.not_eq_true', Bool.not_eq_false', decide_eq_true_eq, decide_eq_false_iff_not] at h); (try simp -implicitDefEqProofs only [W3, ↓D3, ↓DA, ↓DP, ↓DC, QX, *, enc_Fact, hx, hlt, hw1, c3, c8, e1, e2, hst, hi, hA, hB, hC, List.all_map, Function.comp_def, all_tt, plains_ints, scals_ints, List.map_append, SH, keep_46_3, leaf_some, isNormal, Int.reduceToNat, id_eq, Int.reduceBEq, Int.reduceLE, Int.reduceLT, Nat.reduceAdd, Nat.reduceEqDiff, Nat.reduceLT, Nat.reduceLeDiff, Nat.reduceMul, Nat.reduceSub, reduceIte])))
          all_goals trace_state
  · simp -implicitDefEqProofs only [firstRegion]
    rw [keep_46_3]
    simp -implicitDefEqProofs only [W3, ↓D3, ↓DA, ↓DP, ↓DC, Int.reduceToNat, id_eq, Int.reduceBEq, Int.reduceLE, Int.reduceLT, SH, Nat.reduceAdd, Nat.reduceEqDiff, Nat.reduceLT, Nat.reduceLeDiff, Nat.reduceMul, Nat.reduceSub, reduceIte]
    all_goals trace_state
mutual
def Cond.eval (p : Cond → Bool) : Cond → Bool
  | ⟨o, a, b, s⟩ => if (o == 7) = true then !((Cond.evals p s).getD 0 false) else if (o == 8) = true then (Cond.evals p s).getD 0 false && (Cond.evals p s).getD 1 false
      else if (o == 9) = true then (Cond.evals p s).getD 0 false || (Cond.evals p s).getD 1 false else p ⟨o, a, b, s⟩
def Cond.evals (p : Cond → Bool) : List Cond → List Bool
  | [] => []
  | c :: r => c.eval p :: Cond.evals p r
end
noncomputable def hasRole (l : List Includes) (s : List Fact) (person role now age : Int) : Bool := (rolesOf l s person now age).any fun c => c == role
theorem rolesOf_len (l : List Includes) (s : List Fact) (person now age : Int) : (rolesOf l s person now age).length ≤ 6 := under_len _ 6
theorem any_swap (s : List Int) (x : Int) : (s.any fun y => decide (x = y)) = s.any fun c => c == x := by
  congr 1
  funext y
  rw [Bool.eq_iff_iff, decide_eq_true_iff, beq_iff_eq]
  exact eq_comm
theorem r_impl_HasRole {fl f2 : Bool} (k : Nat) (hk : 281474976710656 + 9 ≤ k) (l : List Includes) (hl : l.length ≤ 140737488355328) (s : List Fact) (hs : s.length ≤ 1099511627776) (person role now age : Int) :
    run E noExt k 27 [.sl fl (l.map (Includes.enc fl)), .sl f2 (s.map (Fact.enc f2)), .int .i64 person, .int .i64 role, .int .i64 now, .int .i64 age] [] = some (.bool (hasRole l s person role now age), []) := by
  have c1 := r_impl_RolesOf (fl := fl) (f2 := f2) (k - 1) (by omega) l hl s hs person now age
  have c2 := r_slices_Contains_Int (fl := true) (gl := true) (k - 1) (by omega) (rolesOf l s person now age) (by have := rolesOf_len l s person now age; omega) role
  rw [any_swap] at c2
  obtain ⟨k, rfl⟩ : ∃ j, k = j + 1 := ⟨k - 1, by omega⟩
  rw [run_succ rfl rfl, body_eq (nt := 21) (fn := Go.Proofs.Try.f27) (by kernel_rfl) rfl rfl rfl rfl rfl rfl rfl rfl]
  simp -implicitDefEqProofs only [Nat.add_sub_cancel] at c1 c2
  simp -implicitDefEqProofs only [W3, ↓D3, ↓DA, ↓DP, ↓DC, Go.Proofs.Try.f27, c1, c2, scals_ints, plains_ints, ifEv_bool, Int.reduceToNat, id_eq, Int.reduceBEq, Int.reduceLE, Int.reduceLT, SH, Nat.reduceAdd, Nat.reduceEqDiff, Nat.reduceLT, Nat.reduceLeDiff, Nat.reduceMul, Nat.reduceSub, reduceIte]
  rfl
noncomputable def leafAt (l : List Includes) (s : List Fact) (q : Request) (x : Cond) : Bool :=
  if (x.op == 1) = true then true else if (x.op == 2) = true then hasRole l s q.person x.a q.now x.b else
  if (x.op == 3) = true then decide (0 ≤ findFact s 2 q.person q.device q.now x.b) else
  if (x.op == 4) = true then decide (x.a ≤ bestValue s 3 q.device q.now x.b) else
  if (x.op == 5) = true then decide (x.a ≤ bestValue s 4 q.program q.now x.b) else
  if (x.op == 6) = true then decide (q.now ≤ x.a) else false
theorem indexBy_none {α : Type} (p : α → Bool) : ∀ (s : List α) (i : Nat), indexBy p i s = -1 ∨ 0 ≤ indexBy p i s
  | [], i => .inl rfl
  | x :: r, i => by
    unfold indexBy
    split
    · right; omega
    · exact indexBy_none p r (i + 1)
theorem find_ne (s : List Fact) (a b c d e : Int) : (findFact s a b c d e != -1) = decide (0 ≤ findFact s a b c d e) := by
  unfold findFact
  rcases indexBy_none (factIs a b c d e) s 0 with h | h
  · rw [h]; rfl
  · rw [Bool.eq_iff_iff]; simp; omega
theorem r_impl_LeafHolds {fl f2 f3 f4 : Bool} (k : Nat) (hk : 281474976710656 + 11 ≤ k) (l : List Includes) (hl : l.length ≤ 140737488355328) (s : List Fact) (hs : s.length ≤ 1099511627776) (x : Cond) (q : Request) :
    run E noExt k 11 [.sl fl (l.map (Includes.enc fl)), .sl f2 (s.map (Fact.enc f2)), x.enc f3, q.enc f4] [] = some (.bool (leafAt l s q x), []) := by
  have c1 := r_impl_HasRole (fl := fl) (f2 := f2) (k - 1) (by omega) l hl s hs q.person x.a q.now x.b
  have c2 := r_impl_FindFact (fl := f2) (k - 1) (by omega) s (by omega) 2 q.person q.device q.now x.b
  have c3 := r_impl_BestValue (fl := f2) (k - 1) (by omega) s (by omega) 3 q.device q.now x.b
  have c4 := r_impl_BestValue (fl := f2) (k - 1) (by omega) s (by omega) 4 q.program q.now x.b
  have hne := find_ne s 2 q.person q.device q.now x.b
  generalize hb : decide (0 ≤ findFact s 2 q.person q.device q.now x.b) = b at hne
  obtain ⟨k, rfl⟩ : ∃ j, k = j + 1 := ⟨k - 1, by omega⟩
  rw [run_succ rfl rfl, body_eq (nt := 72) (fn := Go.Proofs.Try.f11) (by kernel_rfl) rfl rfl rfl rfl rfl rfl rfl rfl]
  simp -implicitDefEqProofs only [Nat.add_sub_cancel] at c1 c2 c3 c4
  unfold leafAt
  rw [hb]
  cases e1 : (x.op == 1) with
  | true => simp -implicitDefEqProofs only [W1, ↓D1, ↓DC, Go.Proofs.Try.f11, enc_Cond, enc_Request, e1, ifEv_bool, reduceIte, Int.reduceToNat, id_eq, Int.reduceBEq, Int.reduceLE, Int.reduceLT, Nat.reduceAdd, Nat.reduceEqDiff, Nat.reduceLT, Nat.reduceLeDiff, Nat.reduceMul, Nat.reduceSub]
  | false =>
    cases e2 : (x.op == 2) with
    | true => simp -implicitDefEqProofs only [W1, ↓D1, ↓DC, Go.Proofs.Try.f11, enc_Cond, enc_Request, e1, e2, c1, ifEv_bool, reduceIte, Int.reduceToNat, id_eq, Int.reduceBEq, Int.reduceLE, Int.reduceLT, Nat.reduceAdd, Nat.reduceEqDiff, Nat.reduceLT, Nat.reduceLeDiff, Nat.reduceMul, Nat.reduceSub]
    | false =>
      cases e3 : (x.op == 3) with
      | true => simp -implicitDefEqProofs only [W1, ↓D1, ↓DC, Go.Proofs.Try.f11, enc_Cond, enc_Request, e1, e2, e3, c2, hne, ifEv_bool, reduceIte, Int.reduceToNat, id_eq, Int.reduceBEq, Int.reduceLE, Int.reduceLT, Nat.reduceAdd, Nat.reduceEqDiff, Nat.reduceLT, Nat.reduceLeDiff, Nat.reduceMul, Nat.reduceSub]
      | false =>
        cases e4 : (x.op == 4) with
        | true => simp -implicitDefEqProofs only [W1, ↓D1, ↓DC, Go.Proofs.Try.f11, enc_Cond, enc_Request, e1, e2, e3, e4, c3, ifEv_bool, GE.ge, reduceIte, plan_11_9, plan_11_11, Int.reduceToNat, id_eq, Int.reduceBEq, Int.reduceLE, Int.reduceLT, Nat.reduceAdd, Nat.reduceEqDiff, Nat.reduceLT, Nat.reduceLeDiff, Nat.reduceMul, Nat.reduceSub]
        | false =>
          cases e5 : (x.op == 5) with
          | true => simp -implicitDefEqProofs only [W1, ↓D1, ↓DC, Go.Proofs.Try.f11, enc_Cond, enc_Request, e1, e2, e3, e4, e5, c4, ifEv_bool, GE.ge, reduceIte, plan_11_9, plan_11_11, Int.reduceToNat, id_eq, Int.reduceBEq, Int.reduceLE, Int.reduceLT, Nat.reduceAdd, Nat.reduceEqDiff, Nat.reduceLT, Nat.reduceLeDiff, Nat.reduceMul, Nat.reduceSub]
          | false =>
            cases e6 : (x.op == 6) <;> simp -implicitDefEqProofs only [W1, ↓D1, ↓DC, Go.Proofs.Try.f11, enc_Cond, enc_Request, e1, e2, e3, e4, e5, e6, ifEv_bool, reduceIte, plan_11_9, plan_11_11, Int.reduceToNat, id_eq, Int.reduceBEq, Int.reduceLE, Int.reduceLT, Nat.reduceAdd, Nat.reduceEqDiff, Nat.reduceLT, Nat.reduceLeDiff, Nat.reduceMul, Nat.reduceSub]
theorem evCall_mutOwn {Φ : Phi} {nid n id : Nat} {b : Bool} {e sz : Nat} {xs : List AV} {v : AV} {dst : Option Nat} {st : St} : evCall Φ [.mut, .ro] nid n [.own id b e sz xs, v] [] dst st = evGive Φ nid n [(.mut, .own id b e sz xs), (.ro, v)] dst st := rfl
theorem evCall_mutAgg {Φ : Phi} {nid n : Nat} {cs : List AV} {v : AV} {dst : Option Nat} {st : St} : evCall Φ [.mut, .ro] nid n [.agg cs, v] [] dst st = evGive Φ nid n [(.mut, .agg cs), (.ro, v)] dst st := rfl
section
variable {Φ : Phi} {nid n a b t : Nat} {w x y z : AV} {dst : Option Nat} {st : St} {P : Program}
theorem look_nil {α : Type} {i : Nat} : look i ([] : List (Nat × α)) = none := rfl
theorem evCall_io1 : evCall Φ [.io] nid n [.ptr a b] [] dst st = evGive Φ nid n [(.io, .ptr a b)] dst st := rfl
theorem evCall_io2 : evCall Φ [.io, .ro] nid n [.ptr a b, x] [] dst st = evGive Φ nid n [(.io, .ptr a b), (.ro, x)] dst st := rfl
theorem evCall_io3 : evCall Φ [.io, .ro, .ro] nid n [.ptr a b, x, y] [] dst st = evGive Φ nid n [(.io, .ptr a b), (.ro, x), (.ro, y)] dst st := rfl
theorem evCall_io4 : evCall Φ [.io, .ro, .ro, .ro] nid n [.ptr a b, x, y, z] [] dst st = evGive Φ nid n [(.io, .ptr a b), (.ro, x), (.ro, y), (.ro, z)] dst st := rfl
def finish0 (P : Program) (md : List Mode) (t : Nat) (st : St) : Option (AV × List (List AV)) := finish P md [.tmp t] 1 st
def finJ (P : Program) (md : List Mode) (t : Nat) (st : St) (v : AV) : Option (AV × List (List AV)) := if isPtrB v = true then finish0 P md t st else finI st v
theorem finJ_io (m : Mode) (md : List Mode) (hm : mutSlots 0 (m :: md) = []) : finish P (m :: md) [.tmp t] 1 st = finJ P (m :: md) t st (st.get t) := by
  unfold finJ
  split
  · rfl
  · rename_i h
    exact finish_io1 hm (by simpa using h)
theorem finJ_1 : finish P [.io] [.tmp t] 1 st = finJ P [.io] t st (st.get t) := finJ_io _ _ rfl
theorem finJ_2 : finish P [.io, .ro] [.tmp t] 1 st = finJ P [.io, .ro] t st (st.get t) := finJ_io _ _ rfl
theorem finJ_3 : finish P [.io, .ro, .ro] [.tmp t] 1 st = finJ P [.io, .ro, .ro] t st (st.get t) := finJ_io _ _ rfl
theorem finJ_4 : finish P [.io, .ro, .ro, .ro] [.tmp t] 1 st = finJ P [.io, .ro, .ro, .ro] t st (st.get t) := finJ_io _ _ rfl
variable {md : List Mode}
theorem finJ_int {k : IntKind} {i : Int} : finJ P md t st (.int k i) = finI st (.int k i) := rfl
theorem finJ_bool {c : Bool} : finJ P md t st (.bool c) = finI st (.bool c) := rfl
theorem finJ_str {s : ByteArray} : finJ P md t st (.str s) = finI st (.str s) := rfl
theorem finJ_nils : finJ P md t st .nils = finI st .nils := rfl
theorem finJ_agg {cs : List AV} : finJ P md t st (.agg cs) = finI st (.agg cs) := rfl
theorem finJ_own {id e sz : Nat} {fz : Bool} {xs : List AV} : finJ P md t st (.own id fz e sz xs) = finI st (.own id fz e sz xs) := rfl
theorem finJ_sl {fl : Bool} {xs : List AV} : finJ P md t st (.sl fl xs) = finI st (.sl fl xs) := rfl
theorem finJ_tup {cs : List AV} : finJ P md t st (.tup cs) = finI st (.tup cs) := rfl
end
def byteA (z : Int) : AV := .int .u8 z
theorem byteA_eq {z : Int} : byteA z = .int .u8 z := rfl
theorem and_255 (x : Int) : 0 ≤ bits .and .i64 x 255 ∧ bits .and .i64 x 255 ≤ 255 := by
  unfold bits
  simp only
  have h : ((BitVec.ofInt IntKind.i64.bits x) &&& (BitVec.ofInt IntKind.i64.bits 255)).toNat ≤ 255 := by
    rw [BitVec.toNat_and]
    exact Nat.le_trans Nat.and_le_right (by decide)
  rw [IntWalk.i64_in _ (by omega)]
  omega
theorem conv_u8 {x : Int} : evConvert E.P 5 3 (.int .u8 x) = some (.int .i64 (IntKind.i64.wrap x)) := by kernel_rfl
def nextH (h : Int) : Int := IntKind.i64.wrap (IntKind.i64.wrap (h * 6364136223846793005) + 1442695040888963407)
def shrI (n : Nat) (x : Int) : Int := x.fdiv (2 ^ n)
theorem shr33 {P : Program} {t : Nat} {x : Int} : evBin2 P .shr t (.int .i64 x) (.int .u64 33) = some (.int .i64 (shrI 33 x)) := rfl
theorem shr47 {P : Program} {t : Nat} {x : Int} : evBin2 P .shr t (.int .i64 x) (.int .u64 47) = some (.int .i64 (shrI 47 x)) := rfl
theorem xorI {P : Program} {t : Nat} {x y : Int} : evBin2 P .xor t (.int .i64 x) (.int .i64 y) = some (.int .i64 (bits .xor .i64 x y)) := rfl
theorem andI {P : Program} {t : Nat} {x y : Int} : evBin2 P .and t (.int .i64 x) (.int .i64 y) = some (.int .i64 (bits .and .i64 x y)) := rfl
def rawB (h : Int) : Int := bits .and .i64 (bits .xor .i64 (shrI 33 (nextH h)) (shrI 47 (nextH h))) 255
def byteAt (bs : List Int) (i : Nat) (h : Int) : Int := match bs[i]? with
  | some z => bits .and .i64 (IntKind.i64.wrap (rawB h + IntKind.i64.wrap z)) 255
  | none => rawB h
def nextI (bs : List Int) (i : Nat) : Nat := match bs[i]? with
  | some _ => i + 1
  | none => i
theorem byteAt_le (bs : List Int) (i : Nat) (h : Int) : 0 ≤ byteAt bs i h ∧ byteAt bs i h ≤ 255 := by
  unfold byteAt
  split <;> exact and_255 _
theorem r_spec_l1Byte {fl : Bool} (k : Nat) (hk : 281474976710656 + 1 ≤ k) (bs : List Int) (hb : bs.length ≤ 140737488355328) (i : Nat) (h : Int) :
    run E noExt k 38 [.ptr 0 0] [[.sl fl (bs.map byteA), .int .i64 (i : Nat), .int .i64 h]] = some (.int .i64 (byteAt bs i h), [[.sl fl (bs.map byteA), .int .i64 (nextI bs i : Nat), .int .i64 (nextH h)]]) := by
  obtain ⟨k, rfl⟩ : ∃ j, k = j + 1 := ⟨k - 1, by omega⟩
  rw [run_succ rfl rfl, body_eq (nt := 58) (fn := Go.Proofs.Try.f38) (by kernel_rfl) rfl rfl rfl rfl rfl rfl rfl rfl]
  rcases Nat.lt_or_ge i bs.length with hi | hi
  · have hx : bs[i]? = some bs[i] := List.getElem?_eq_getElem hi
    have hx2 : (bs.map byteA)[i]? = some (.int .u8 bs[i]) := by rw [List.getElem?_map, hx]; rfl
    have hlt : ((i : Nat) : Int) < ((bs.length : Nat) : Int) := by omega
    have hw : IntKind.i64.wrap (((i : Nat) : Int) + 1) = ((i + 1 : Nat) : Int) := by rw [IntWalk.i64_in _ (by omega)]; omega
    simp -implicitDefEqProofs only [W3, ↓D3, ↓DA, ↓DP, ↓DC, byteAt, nextI, hx, Go.Proofs.Try.f38, plan_38_2, plan_38_3, plan_38_4, hlt, hw, shr33, shr47, xorI, andI, byteA_eq, rawB, nextH, op_convert, conv_u8, look_nil, evCall_io1, evCall_io2, evCall_io3, evCall_io4, finJ_1, finJ_2, finJ_3, finJ_4, finJ_int, finJ_bool, finJ_str, finJ_nils, finJ_agg, finJ_own, finJ_sl, finJ_tup, look_cons, reduceCtorEq, evCall_mutOwn, evCall_mutAgg, evGive, giveRows, ioBoxes, mutArgs, roArgs, handArg, mutSlots, isPtrB, pairs, pairss, back_nil, back_cons, backO, backE, setBoxes, importB, mode_mut, mode_give, mode_io, mode_ro, List.zip_cons_cons, List.zip_nil_left, List.zip_nil_right, ite_self, ite_true, ite_false, finish_give, finish_mut1, finish_io0, finish_io2, finish_io3, finish_ioc, finI, finC, finW_ptr, SH, Int.reduceToNat, id_eq, Int.reduceBEq, Int.reduceLE, Int.reduceLT, Nat.reduceAdd, Nat.reduceEqDiff, Nat.reduceLT, Nat.reduceLeDiff, Nat.reduceMul, Nat.reduceSub, reduceIte]
  · have hx : bs[i]? = none := List.getElem?_eq_none hi
    have hlt : ¬ ((i : Nat) : Int) < ((bs.length : Nat) : Int) := by omega
    simp -implicitDefEqProofs only [W3, ↓D3, ↓DA, ↓DP, ↓DC, byteAt, nextI, hx, Go.Proofs.Try.f38, plan_38_2, plan_38_3, plan_38_4, hlt, shr33, shr47, xorI, andI, byteA_eq, rawB, nextH, op_convert, conv_u8, look_nil, evCall_io1, evCall_io2, evCall_io3, evCall_io4, finJ_1, finJ_2, finJ_3, finJ_4, finJ_int, finJ_bool, finJ_str, finJ_nils, finJ_agg, finJ_own, finJ_sl, finJ_tup, look_cons, reduceCtorEq, evCall_mutOwn, evCall_mutAgg, evGive, giveRows, ioBoxes, mutArgs, roArgs, handArg, mutSlots, isPtrB, pairs, pairss, back_nil, back_cons, backO, backE, setBoxes, importB, mode_mut, mode_give, mode_io, mode_ro, List.zip_cons_cons, List.zip_nil_left, List.zip_nil_right, ite_self, ite_true, ite_false, finish_give, finish_mut1, finish_io0, finish_io2, finish_io3, finish_ioc, finI, finC, finW_ptr, SH, Int.reduceToNat, id_eq, Int.reduceBEq, Int.reduceLE, Int.reduceLT, Nat.reduceAdd, Nat.reduceEqDiff, Nat.reduceLT, Nat.reduceLeDiff, Nat.reduceMul, Nat.reduceSub, reduceIte]
def below1 (bs : List Int) (n : Int) (i : Nat) (h : Int) : Int := if n ≤ 0 then 0 else if n ≤ 256 then (byteAt bs i h).tmod n else
  (IntKind.i64.wrap (IntKind.i64.wrap (IntKind.i64.wrap (byteAt bs i h * 65536) + IntKind.i64.wrap (byteAt bs (nextI bs i) (nextH h) * 256)) + byteAt bs (nextI bs (nextI bs i)) (nextH (nextH h)))).tmod n
def belowI (bs : List Int) (n : Int) (i : Nat) : Nat := if n ≤ 0 then i else if n ≤ 256 then nextI bs i else nextI bs (nextI bs (nextI bs i))
def belowH (n : Int) (h : Int) : Int := if n ≤ 0 then h else if n ≤ 256 then nextH h else nextH (nextH (nextH h))
theorem r_spec_l1Below {fl : Bool} (k : Nat) (hk : 281474976710656 + 2 ≤ k) (bs : List Int) (hb : bs.length ≤ 140737488355328) (n : Int) (i : Nat) (h : Int) :
    run E noExt k 17 [.ptr 0 0, .int .i64 n] [[.sl fl (bs.map byteA), .int .i64 (i : Nat), .int .i64 h]] = some (.int .i64 (below1 bs n i h), [[.sl fl (bs.map byteA), .int .i64 (belowI bs n i : Nat), .int .i64 (belowH n h)]]) := by
  have c1 := fun i h => r_spec_l1Byte (fl := fl) (k - 1) (by omega) bs hb i h
  obtain ⟨k, rfl⟩ : ∃ j, k = j + 1 := ⟨k - 1, by omega⟩
  rw [run_succ rfl rfl, body_eq (nt := 31) (fn := Go.Proofs.Try.f17) (by kernel_rfl) rfl rfl rfl rfl rfl rfl rfl rfl]
  simp -implicitDefEqProofs only [Nat.add_sub_cancel] at c1
  rcases Classical.em (n ≤ 0) with h0 | h0
  · simp -implicitDefEqProofs only [W3, ↓D3, ↓DA, ↓DP, ↓DC, below1, belowI, belowH, Go.Proofs.Try.f17, h0, c1, look_nil, evCall_io1, evCall_io2, evCall_io3, evCall_io4, finJ_1, finJ_2, finJ_3, finJ_4, finJ_int, finJ_bool, finJ_str, finJ_nils, finJ_agg, finJ_own, finJ_sl, finJ_tup, look_cons, reduceCtorEq, evCall_mutOwn, evCall_mutAgg, evGive, giveRows, ioBoxes, mutArgs, roArgs, handArg, mutSlots, isPtrB, pairs, pairss, back_nil, back_cons, backO, backE, setBoxes, importB, mode_mut, mode_give, mode_io, mode_ro, List.zip_cons_cons, List.zip_nil_left, List.zip_nil_right, ite_self, ite_true, ite_false, finish_give, finish_mut1, finish_io0, finish_io2, finish_io3, finish_ioc, finI, finC, finW_ptr, SH, Int.reduceToNat, id_eq, Int.reduceBEq, Int.reduceLE, Int.reduceLT, Nat.reduceAdd, Nat.reduceEqDiff, Nat.reduceLT, Nat.reduceLeDiff, Nat.reduceMul, Nat.reduceSub, reduceIte]
  rcases Classical.em (n ≤ 256) with h1 | h1
  · have hn : ∀ t x, evBin2 E.P .rem t (.int .i64 x) (.int .i64 n) = some (.int .i64 (x.tmod n)) := fun t x => by
      have h9 : ¬ n = 0 := by omega
      simp [evBin2, evBin, evInt, h9]
    simp -implicitDefEqProofs only [W3, ↓D3, ↓DA, ↓DP, ↓DC, below1, belowI, belowH, Go.Proofs.Try.f17, h0, h1, hn, c1, look_nil, evCall_io1, evCall_io2, evCall_io3, evCall_io4, finJ_1, finJ_2, finJ_3, finJ_4, finJ_int, finJ_bool, finJ_str, finJ_nils, finJ_agg, finJ_own, finJ_sl, finJ_tup, look_cons, reduceCtorEq, evCall_mutOwn, evCall_mutAgg, evGive, giveRows, ioBoxes, mutArgs, roArgs, handArg, mutSlots, isPtrB, pairs, pairss, back_nil, back_cons, backO, backE, setBoxes, importB, mode_mut, mode_give, mode_io, mode_ro, List.zip_cons_cons, List.zip_nil_left, List.zip_nil_right, ite_self, ite_true, ite_false, finish_give, finish_mut1, finish_io0, finish_io2, finish_io3, finish_ioc, finI, finC, finW_ptr, SH, Int.reduceToNat, id_eq, Int.reduceBEq, Int.reduceLE, Int.reduceLT, Nat.reduceAdd, Nat.reduceEqDiff, Nat.reduceLT, Nat.reduceLeDiff, Nat.reduceMul, Nat.reduceSub, reduceIte]
  · have hn : ∀ t x, evBin2 E.P .rem t (.int .i64 x) (.int .i64 n) = some (.int .i64 (x.tmod n)) := fun t x => by
      have h9 : ¬ n = 0 := by omega
      simp [evBin2, evBin, evInt, h9]
    simp -implicitDefEqProofs only [W3, ↓D3, ↓DA, ↓DP, ↓DC, below1, belowI, belowH, Go.Proofs.Try.f17, h0, h1, hn, c1, look_nil, evCall_io1, evCall_io2, evCall_io3, evCall_io4, finJ_1, finJ_2, finJ_3, finJ_4, finJ_int, finJ_bool, finJ_str, finJ_nils, finJ_agg, finJ_own, finJ_sl, finJ_tup, look_cons, reduceCtorEq, evCall_mutOwn, evCall_mutAgg, evGive, giveRows, ioBoxes, mutArgs, roArgs, handArg, mutSlots, isPtrB, pairs, pairss, back_nil, back_cons, backO, backE, setBoxes, importB, mode_mut, mode_give, mode_io, mode_ro, List.zip_cons_cons, List.zip_nil_left, List.zip_nil_right, ite_self, ite_true, ite_false, finish_give, finish_mut1, finish_io0, finish_io2, finish_io3, finish_ioc, finI, finC, finW_ptr, SH, Int.reduceToNat, id_eq, Int.reduceBEq, Int.reduceLE, Int.reduceLT, Nat.reduceAdd, Nat.reduceEqDiff, Nat.reduceLT, Nat.reduceLeDiff, Nat.reduceMul, Nat.reduceSub, reduceIte]
end Go.Proofs.Ytggkeechdakccaa.Flat
