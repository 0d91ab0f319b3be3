/-
Whole numbers in order, each once: the plain law, no program in sight.
-/
import Derived.Test.YtaojmienjikfbaaGreatDoorFlatM4
import Derived.Test.YtaojmienjikfbaaGreatDoorEqI
import Derived.Test.YtaojmienjikfbaaGreatDoorEqF
import Derived.Test.YtaojmienjikfbaaGreatDoorEqA
import Derived.Test.YtaojmienjikfbaaGreatDoorEqL
set_option linter.unusedVariables false
set_option linter.unusedSimpArgs false
namespace Go.Proofs.YtaojmienjikfbaaGreatDoor.Flat
open Go.Lib
def sortUniq (zs : List Int) : List Int := compact (ascending zs)
theorem strict_ext : ∀ {xs ys : List Int}, xs.Pairwise (· < ·) → ys.Pairwise (· < ·) → (∀ x, x ∈ xs ↔ x ∈ ys) → xs = ys
  | [], [], _, _, _ => rfl
  | [], y :: ys, _, _, h => by have := (h y).2 (by simp); simp at this
  | x :: xs, [], _, _, h => by have := (h x).1 (by simp); simp at this
  | x :: xs, y :: ys, hx, hy, h => by
    rw [List.pairwise_cons] at hx hy
    have h1 : x = y := by
      have a := (h x).1 (by simp)
      have b := (h y).2 (by simp)
      rcases List.mem_cons.1 a with a | a
      · exact a
      · rcases List.mem_cons.1 b with b | b
        · exact b.symm
        · have := hx.1 y b; have := hy.1 x a; omega
    subst h1
    congr 1
    refine strict_ext hx.2 hy.2 fun z => ?_
    constructor
    · intro hz
      rcases List.mem_cons.1 ((h z).1 (by simp [hz])) with e | e
      · have := hx.1 z hz; omega
      · exact e
    · intro hz
      rcases List.mem_cons.1 ((h z).2 (by simp [hz])) with e | e
      · have := hy.1 z hz; omega
      · exact e
theorem upTo_spec {d : Array Int} (hs : ∀ i j, i ≤ j → j < d.size → d[i]! ≤ d[j]!) : ∀ m, m ≤ d.size → (compactUpTo d m).Pairwise (· < ·) ∧ ∀ x, x ∈ compactUpTo d m ↔ ∃ i, i < m ∧ d[i]! = x
  | 0, _ => ⟨by simp [compactUpTo], fun x => by simp [compactUpTo]⟩
  | m + 1, hm => by
    obtain ⟨h1, h2⟩ := upTo_spec hs m (by omega)
    rw [compactUpTo_succ]
    by_cases hk : keeps d m = true
    · rw [if_pos hk]
      refine ⟨?_, fun x => ?_⟩
      · rw [List.pairwise_append]
        refine ⟨h1, by simp, fun a ha b hb => ?_⟩
        obtain rfl := List.mem_singleton.1 hb
        obtain ⟨i, hi, rfl⟩ := (h2 a).1 ha
        have hle := hs i (m - 1) (by omega) (by omega)
        have hle2 := hs (m - 1) m (by omega) (by omega)
        simp -implicitDefEqProofs only [keeps, decide_eq_true_eq] at hk
        have := hk.resolve_left (by omega)
        omega
      · rw [List.mem_append, h2, List.mem_singleton]
        constructor
        · rintro (⟨i, hi, rfl⟩ | rfl)
          · exact ⟨i, by omega, rfl⟩
          · exact ⟨m, by omega, rfl⟩
        · rintro ⟨i, hi, rfl⟩
          by_cases e : i = m
          · exact .inr (by rw [e])
          · exact .inl ⟨i, by omega, rfl⟩
    · rw [if_neg hk, List.append_nil]
      refine ⟨h1, fun x => ?_⟩
      rw [h2]
      simp -implicitDefEqProofs only [keeps, decide_eq_true_eq, not_or, Classical.not_not] at hk
      constructor
      · rintro ⟨i, hi, rfl⟩
        exact ⟨i, by omega, rfl⟩
      · rintro ⟨i, hi, rfl⟩
        by_cases e : i = m
        · exact ⟨m - 1, by omega, by rw [e]; exact hk.2.symm⟩
        · exact ⟨i, by omega, rfl⟩
theorem ascending_sorted (zs : List Int) : (ascending zs).Pairwise (· ≤ ·) := by
  have := List.pairwise_mergeSort (le := fun x y : Int => decide (x ≤ y)) (fun a b c h1 h2 => by simp at *; omega) (fun a b => by simp; omega) zs
  exact this.imp (by simp)
theorem ascending_mem (zs : List Int) (x : Int) : x ∈ ascending zs ↔ x ∈ zs := by
  unfold ascending
  exact List.mem_mergeSort
theorem sortUniq_spec (zs : List Int) : (sortUniq zs).Pairwise (· < ·) ∧ ∀ x, x ∈ sortUniq zs ↔ x ∈ zs := by
  have hs : ∀ i j, i ≤ j → j < (ascending zs).toArray.size → (ascending zs).toArray[i]! ≤ (ascending zs).toArray[j]! := by
    intro i j hij hj
    have hj' : j < (ascending zs).length := by simpa using hj
    rw [getElem!_pos (ascending zs).toArray i (by simp; omega), getElem!_pos (ascending zs).toArray j hj]
    simp -implicitDefEqProofs only [List.getElem_toArray]
    rcases Nat.lt_or_eq_of_le hij with h | rfl
    · exact List.pairwise_iff_getElem.1 (ascending_sorted zs) i j (by omega) hj' h
    · exact Int.le_refl _
  obtain ⟨h1, h2⟩ := upTo_spec hs (ascending zs).length (by simp)
  refine ⟨h1, fun x => ?_⟩
  rw [show sortUniq zs = compactUpTo (ascending zs).toArray (ascending zs).length from rfl, h2, ← ascending_mem zs x]
  constructor
  · rintro ⟨i, hi, rfl⟩
    rw [getElem!_pos (ascending zs).toArray i (by simpa using hi)]
    simp
  · intro hx
    obtain ⟨i, hi, rfl⟩ := List.getElem_of_mem hx
    exact ⟨i, hi, by rw [getElem!_pos (ascending zs).toArray i (by simpa using hi)]; simp⟩
theorem sortUniq_eq {zs ys : List Int} (hy : ys.Pairwise (· < ·)) (h : ∀ x, x ∈ ys ↔ x ∈ zs) : sortUniq zs = ys := by
  obtain ⟨h1, h2⟩ := sortUniq_spec zs
  exact strict_ext h1 hy fun x => (h2 x).trans (h x).symm
set_option maxRecDepth 10000
theorem r_sort (k : Nat) (hk : 1 ≤ k) (e : Nat) (zs : List Int) (h : zs.length < 4611686018427387904) : run E noExt k 140 [.own 0 false e 1 (zs.map (AV.int .i64))] [] = some (.tup [], [[.own 0 false e 1 ((ascending zs).map (AV.int .i64))]]) := by
  obtain ⟨k, rfl⟩ : ∃ j, k = j + 1 := ⟨k - 1, by omega⟩
  simp -implicitDefEqProofs only [run, ext_140, sortExt, intsOf_map, Option.bind_some, h, if_true]
theorem r_compact (k : Nat) (hk : 1 ≤ k) (e : Nat) (zs : List Int) : run E noExt k 141 [.own 0 false e 1 (zs.map (AV.int .i64))] [] = some (.own 0 false e 1 ((Lib.compact zs).map (AV.int .i64)), []) := by
  obtain ⟨k, rfl⟩ : ∃ j, k = j + 1 := ⟨k - 1, by omega⟩
  simp -implicitDefEqProofs only [run, ext_141, compactExt, intsOf_map, Option.map_some]
def underB (m : List Bool) (r : Int) (n : Nat) : List Int := ((List.range n).filter fun (i : Nat) => (m[i]?).getD false || ((i : Int) == r)).map Int.ofNat
theorem underB_succ {m : List Bool} {r : Int} {n : Nat} : underB m r (n + 1) = if ((m[n]?).getD false || ((n : Int) == r)) = true then underB m r n ++ [(n : Int)] else underB m r n := by
  unfold underB
  rw [List.range_succ, List.filter_append]
  by_cases h : ((m[n]?).getD false || ((n : Int) == r)) = true
  · rw [if_pos h]; simp [h]
  · rw [if_neg h]; simp [h]
theorem underB_len (m : List Bool) (r : Int) (n : Nat) : (underB m r n).length ≤ n := by
  unfold underB
  rw [List.length_map]
  exact Nat.le_trans (List.length_filter_le _ _) (by simp)
theorem underB_eq {l : List Includes} {r : Int} (hr : inR r 0 5 = true) : underB (Roles.ends (l.map pairOf) (List.replicate 6 false, [r])) r 6 = rolesUnder l r := by
  have h1 : 0 ≤ r ∧ r ≤ 5 := by simpa [inR] using hr
  obtain ⟨h2, h3⟩ := Roles.start_iff (l := l.map pairOf) (r := r) hr
  unfold underB rolesUnder under
  rw [if_pos hr]
  congr 1
  refine List.filter_congr fun i hi => ?_
  have hi6 : i < 6 := List.mem_range.1 hi
  rw [Bool.eq_iff_iff, ← has_iff (m := Roles.marks _ _), Roles.marks_iff (by omega) i, Roles.reach_iff, ← h3 i, has_iff]
  simp -implicitDefEqProofs only [Bool.or_eq_true, beq_iff_eq]
  constructor
  · rintro (h | h)
    · exact .inr h
    · exact .inl (by omega)
  · rintro (h | h)
    · exact .inr (by omega)
    · exact .inl h
theorem r_impl_RolesUnder {fl : Bool} (k : Nat) (hk : 281474976710656 + 4 ≤ k) (l : List Includes) (hl : l.length ≤ 140737488355328) (r : Int) :
    run E noExt k 139 [.sl fl (l.map (Includes.enc fl)), .int .i64 r] [] = some (.own 0 false 3 1 ((rolesUnder l r).map (AV.int .i64)), []) := by
  have c0 := r_impl_isRole (k - 1) (by omega)
  have c1 := r_impl_below (fl := fl) (k - 1) (by omega) l hl r
  obtain ⟨k, rfl⟩ : ∃ j, k = j + 1 := ⟨k - 1, by omega⟩
  rw [run_succ rfl rfl, body_eq (nt := 32) (fn := Go.Proofs.Tryz.f139) (by kernel_rfl) rfl rfl rfl rfl rfl rfl rfl rfl]
  simp -implicitDefEqProofs only [Nat.add_sub_cancel] at c0 c1
  by_cases hr : inR r 0 5 = true
  · rw [← underB_eq hr]
    have h6 := (Roles.start_iff (l := l.map pairOf) (r := r) hr).1
    generalize Roles.ends (l.map pairOf) (List.replicate 6 false, [r]) = m at h6 c1
    have hps := plainS_bools m
    simp -implicitDefEqProofs only [W4, ↓D4, ↓DA, ↓DP, ↓DC, Go.Proofs.Tryz.f139, c0, c1, hr, hps, ifEv_bool, Int.reduceToNat, id_eq, Int.reduceBEq, Int.reduceLE, Int.reduceLT, SH, dedup, nodupB, idx, AV.rows, AV.rowss, AV.mapO, AV.mapOs, Nat.reduceAdd, Nat.reduceEqDiff, Nat.reduceLT, Nat.reduceLeDiff, Nat.reduceMul, Nat.reduceSub, reduceIte]
    rw [ev_loop]
    refine Eq.trans (loop_list (Q := fun (_ : Unit) z => thenEnd E.P [] _ 0 (thenEv E _ _ _ _ _ (outOf 0 z)) = some (.own 0 false 3 1 ((underB m r 6).map (AV.int .i64)), [])) (List.range 6) goStep id
      (fun i _ => { sl := [(1, .int .i64 r), (5, .own 0 false 3 1 ((underB m r i).map (AV.int .i64))), (15, .agg (m.map AV.bool)), (16, .int .i64 (i : Nat))], bx := [], nx := 1, nt := 32 })
      (fun _ _ => True) () ?_ ?_ (by simp; omega) trivial ?_) ?_
    · intro _ _
      have h7 : (List.range 6).length = 6 := rfl
      have n6 : ((6 : Nat) : Int) = 6 := rfl
      simp -implicitDefEqProofs only [W3, ↓D3, ↓DA, ↓DP, ↓DC, h7, n6, leaf_some, isNormal, ifEv_bool, Int.reduceToNat, id_eq, Int.reduceBEq, Int.reduceLE, Int.reduceLT, SH, Nat.reduceAdd, Nat.reduceEqDiff, Nat.reduceLT, Nat.reduceLeDiff, Nat.reduceMul, Nat.reduceSub, reduceIte]
    · intro pre x r' _ hs' _
      have hp5 : pre.length ≤ 5 := by have := congrArg List.length hs'; simp at this; omega
      have h5 : ((pre.length : Int) < 6) := by omega
      have h5' : decide ((pre.length : Int) < 6) = true := by simp; omega
      have n6 : ((6 : Nat) : Int) = 6 := rfl
      have hget := idx_bools (m := m) (i := pre.length) (by omega)
      have hw1 : IntKind.i64.wrap ((pre.length : Int) + 1) = ((pre.length + 1 : Nat) : Int) := by rw [IntWalk.i64_in _ (by omega)]; omega
      have hu := underB_len m r pre.length
      have hA : ((underB m r pre.length).length + 1) * 8 ≤ 140737488355328 := by omega
      have hB : (underB m r pre.length).length ≤ 9223372036854775806 := by omega
      have hpl : plains [AV.int IntKind.i64 (pre.length : Int)] = true := rfl
      clear hs'
      have hsc := underB_succ (m := m) (r := r) (n := pre.length)
      generalize hv : (m[pre.length]?).getD false = v at hget hsc
      generalize hv2 : ((pre.length : Int) == r) = v2 at hsc
      cases v <;> cases v2 <;> simp -implicitDefEqProofs only [Bool.or_self, Bool.or_false, Bool.or_true, Bool.false_or, Bool.true_or, Bool.false_eq_true, if_false, if_true] at hsc
      all_goals
        simp -implicitDefEqProofs only [W3, ↓D3, ↓DA, ↓DP, ↓DC, QX, h5, h5', n6, hget, hw1, hu, hA, hB, hpl, hsc, hv2, goStep, op_index, opP_index, evIndex, List.map_append, rowss_bools, boxess_bools, mapOs_bools, SH, keep_139_5, leaf_some, isNormal, Int.reduceToNat, id_eq, Int.reduceBEq, Int.reduceLE, Int.reduceLT, Nat.reduceAdd, Nat.reduceEqDiff, Nat.reduceLT, Nat.reduceLeDiff, Nat.reduceMul, Nat.reduceSub, reduceIte]
        repeat' (split <;> (rename_i h; (try simp -implicitDefEqProofs only [Bool.not_eq_true', Bool.not_eq_false', decide_eq_true_eq, decide_eq_false_iff_not] at h); (try simp -implicitDefEqProofs only [W3, ↓D3, ↓DA, ↓DP, ↓DC, QX, *, h5, h5', n6, hget, hw1, hu, hA, hB, hpl, hsc, hv2, goStep, op_index, opP_index, evIndex, List.map_append, rowss_bools, boxess_bools, mapOs_bools, SH, keep_139_5, leaf_some, isNormal, Int.reduceToNat, id_eq, Int.reduceBEq, Int.reduceLE, Int.reduceLT, Nat.reduceAdd, Nat.reduceEqDiff, Nat.reduceLT, Nat.reduceLeDiff, Nat.reduceMul, Nat.reduceSub, reduceIte])))
    · simp -implicitDefEqProofs only [firstRegion]
      rw [keep_139_5]
      have hu0 : underB m r 0 = [] := rfl
      simp -implicitDefEqProofs only [W3, ↓D3, ↓DA, ↓DP, ↓DC, hu0, rowss_bools, boxess_bools, mapOs_bools, Int.reduceToNat, id_eq, Int.reduceBEq, Int.reduceLE, Int.reduceLT, SH, Nat.reduceAdd, Nat.reduceEqDiff, Nat.reduceLT, Nat.reduceLeDiff, Nat.reduceMul, Nat.reduceSub, reduceIte]
    · rfl
  · have hr' : inR r 0 5 = false := by simpa using hr
    simp -implicitDefEqProofs only [W3, ↓D3, ↓DA, ↓DP, ↓DC, rolesUnder, hr', if_false, Go.Proofs.Tryz.f139, c0, ifEv_bool, Int.reduceToNat, id_eq, Int.reduceBEq, Int.reduceLE, Int.reduceLT, SH, Nat.reduceAdd, Nat.reduceEqDiff, Nat.reduceLT, Nat.reduceLeDiff, Nat.reduceMul, Nat.reduceSub, reduceIte]
def roleFact (person now age : Int) (f : Fact) : Bool := f.kind == 1 && (f.subject == person && holdsAt f now age)
def markAll (m : List Bool) (ws : List Int) : List Bool := ws.foldl (fun m c => m.set c.toNat true) m
theorem markAll_len {ws : List Int} : ∀ {m : List Bool}, (markAll m ws).length = m.length := by
  induction ws with
  | nil => intro m; rfl
  | cons c ws ih => intro m; unfold markAll at ih ⊢; rw [List.foldl_cons, ih, List.length_set]
def markStep (_ : Nat) (c : Int) (m : List Bool) : Sum (List Bool) (List Bool) := .inr (m.set c.toNat true)
theorem markLoop : ∀ (ws : List Int) (i : Nat) (m : List Bool), loopL markStep id i ws m = markAll m ws
  | [], i, m => rfl
  | c :: r, i, m => by simp -implicitDefEqProofs only [loopL, markStep]; rw [markLoop r]; rfl
noncomputable def rolesStep (l : List Includes) (person now age : Int) (_ : Nat) (f : Fact) (m : List Bool) : Sum (List Bool) (List Bool) := .inr (if roleFact person now age f = true then markAll m (rolesUnder l f.value) else m)
noncomputable def rolesM (l : List Includes) (s : List Fact) (person now age : Int) : List Bool := loopL (rolesStep l person now age) id 0 s (List.replicate 6 false)
noncomputable def rolesOf (l : List Includes) (s : List Fact) (person now age : Int) : List Int := under (rolesM l s person now age) 6
noncomputable def rolesL (l : List Includes) (s : List Fact) (person now age : Int) : List Int := (s.filter (roleFact person now age)).flatMap fun f => rolesUnder l f.value
theorem under_range {m : List Bool} {n : Nat} {x : Int} (h : x ∈ under m n) : 0 ≤ x ∧ x < n := by
  unfold under at h
  obtain ⟨i, hi, rfl⟩ := List.mem_map.1 h
  have := List.mem_range.1 (List.mem_filter.1 hi).1
  show 0 ≤ ((i : Nat) : Int) ∧ ((i : Nat) : Int) < n
  omega
theorem rolesUnder_range {l : List Includes} {r x : Int} (h : x ∈ rolesUnder l r) : 0 ≤ x ∧ x < 6 := by
  unfold rolesUnder at h
  split at h
  · exact under_range h
  · simp at h
theorem markAll_iff {ws : List Int} (hw : ∀ x ∈ ws, 0 ≤ x ∧ x < 6) : ∀ {m : List Bool} (hm : m.length = 6) (i : Nat), Roles.Has (markAll m ws) i ↔ Roles.Has m i ∨ (i : Int) ∈ ws := by
  induction ws with
  | nil => intro m hm i; simp [markAll]
  | cons c ws ih =>
    intro m hm i
    have hc := hw c (by simp)
    have := ih (fun x hx => hw x (by simp [hx])) (m := m.set c.toNat true) (by rw [List.length_set]; exact hm) i
    unfold markAll at this ⊢
    rw [List.foldl_cons, this, List.mem_cons]
    unfold Roles.Has
    rw [List.getElem?_set]
    by_cases e : c.toNat = i
    · rw [if_pos e, if_pos (by omega)]
      have : (i : Int) = c := by omega
      simp [this]
    · rw [if_neg e]
      have : (i : Int) ≠ c := by omega
      simp [this]
theorem rolesLoop (l : List Includes) (person now age : Int) : ∀ (s : List Fact) (j : Nat) (m : List Bool), m.length = 6 → (loopL (rolesStep l person now age) id j s m).length = 6 ∧ ∀ i : Nat, Roles.Has (loopL (rolesStep l person now age) id j s m) i ↔ Roles.Has m i ∨ (i : Int) ∈ rolesL l s person now age
  | [], j, m, hm => ⟨hm, fun i => by simp [loopL, rolesL]⟩
  | f :: r, j, m, hm => by
    simp -implicitDefEqProofs only [loopL, rolesStep]
    by_cases h : roleFact person now age f = true
    · rw [if_pos h]
      obtain ⟨h1, h2⟩ := rolesLoop l person now age r (j + 1) (markAll m (rolesUnder l f.value)) (by rw [markAll_len]; exact hm)
      refine ⟨h1, fun i => ?_⟩
      rw [h2, markAll_iff (fun x hx => rolesUnder_range hx) hm]
      unfold rolesL
      rw [List.filter_cons_of_pos h, List.flatMap_cons, List.mem_append, or_assoc]
    · rw [if_neg h]
      obtain ⟨h1, h2⟩ := rolesLoop l person now age r (j + 1) m hm
      refine ⟨h1, fun i => ?_⟩
      rw [h2]
      unfold rolesL
      rw [List.filter_cons_of_neg (by simpa using h)]
theorem under_strict (m : List Bool) (n : Nat) : (under m n).Pairwise (· < ·) := by
  unfold under
  rw [List.pairwise_map]
  refine List.Pairwise.filter _ ?_
  exact List.pairwise_lt_range.imp fun h => by show ((_ : Nat) : Int) < ((_ : Nat) : Int); omega
theorem rolesOf_eq (l : List Includes) (s : List Fact) (person now age : Int) : sortUniq (rolesL l s person now age) = rolesOf l s person now age := by
  obtain ⟨h1, h2⟩ := rolesLoop l person now age s 0 (List.replicate 6 false) (by simp)
  refine sortUniq_eq (under_strict _ _) fun x => ?_
  have hno : ∀ i, ¬ Roles.Has (List.replicate 6 false) i := by
    intro i h
    unfold Roles.Has at h
    rw [List.getElem?_replicate] at h
    split at h <;> simp at h
  unfold rolesOf under rolesM
  simp -implicitDefEqProofs only [List.mem_map, List.mem_filter, List.mem_range]
  constructor
  · rintro ⟨i, ⟨_, hi⟩, rfl⟩
    exact ((h2 i).1 (has_iff.2 hi)).resolve_left (hno i)
  · intro hx
    have hr : 0 ≤ x ∧ x < 6 := by
      unfold rolesL at hx
      obtain ⟨f, _, hf⟩ := List.mem_flatMap.1 hx
      exact rolesUnder_range hf
    have e : ((x.toNat : Nat) : Int) = x := by omega
    refine ⟨x.toNat, ⟨by omega, has_iff.1 ((h2 x.toNat).2 (.inr (by rw [e]; exact hx)))⟩, e⟩
theorem r_spec_RolesOf {fl f2 : Bool} (k : Nat) (hk : 281474976710656 + 8 ≤ k) (l : List Includes) (hl : l.length ≤ 140737488355328) (s : List Fact) (hs : s.length ≤ 140737488355328) (person now age : Int) :
    run E noExt k 135 [.sl fl (l.map (Includes.enc fl)), .sl f2 (s.map (Fact.enc f2)), .int .i64 person, .int .i64 now, .int .i64 age] [] = some (.own 0 false 3 1 ((rolesOf l s person now age).map (AV.int .i64)), []) := by
  have c1 := r_spec_HoldsAt (fl := f2) (k - 1) (by omega)
  have c2 := r_spec_RolesUnder (fl := fl) (k - 1) (by omega) l hl
  obtain ⟨k, rfl⟩ : ∃ j, k = j + 1 := ⟨k - 1, by omega⟩
  rw [run_succ rfl rfl, body_eq (nt := 82) (fn := Go.Proofs.Tryz.f135) (by kernel_rfl) rfl rfl rfl rfl rfl rfl rfl rfl]
  simp -implicitDefEqProofs only [Nat.add_sub_cancel, enc_Fact] at c1 c2
  have hz : zeroElem { tag := Tag.bool, agg := false, size := 1, bytes := 1, zero := some (Value.bool false), elem := 0, fields := [], eqs := none } = some (.bool false) := rfl
  have hrep : List.replicate 6 (AV.bool false) = (List.replicate 6 false).map AV.bool := rfl
  simp -implicitDefEqProofs only [W4, ↓D4, ↓DA, ↓DP, ↓DC, Go.Proofs.Tryz.f135, ifEv_bool, evMakeSlice, hz, hrep, Int.reduceToNat, id_eq, Int.reduceBEq, Int.reduceLE, Int.reduceLT, SH, dedup, nodupB, idx, AV.rows, AV.rowss, AV.mapO, AV.mapOs, Nat.reduceAdd, Nat.reduceEqDiff, Nat.reduceLT, Nat.reduceLeDiff, Nat.reduceMul, Nat.reduceSub, reduceIte]
  rw [ev_loop]
  refine loop_list (Q := fun g z => g = rolesM l s person now age → thenEnd E.P [] _ 0 (thenEv E _ _ _ _ _ (outOf 0 z)) = some (.own 0 false 3 1 ((rolesOf l s person now age).map (AV.int .i64)), [])) s (rolesStep l person now age) id
    (fun i m => { sl := [(0, .sl fl (l.map (Includes.enc fl))), (1, .sl f2 (s.map (Fact.enc f2))), (2, .int .i64 person), (3, .int .i64 now), (4, .int .i64 age), (11, .own 0 false 4 1 (m.map AV.bool)), (12, .int .i64 (i : Nat))], bx := [], nx := 1, nt := 82 })
    (fun _ m => m.length = 6) (List.replicate 6 false) ?_ ?_ (by omega) (by simp) ?_ rfl
  · intro m hm
    simp -implicitDefEqProofs only [W4, ↓D4, ↓DA, ↓DP, ↓DC, leaf_some, isNormal, ifEv_bool, Int.reduceToNat, id_eq, Int.reduceBEq, Int.reduceLE, Int.reduceLT, SH, dedup, nodupB, idx, AV.rows, AV.rowss, AV.mapO, AV.mapOs, Nat.reduceAdd, Nat.reduceEqDiff, Nat.reduceLT, Nat.reduceLeDiff, Nat.reduceMul, Nat.reduceSub, reduceIte]
    intro he
    unfold rolesOf
    rw [← he]
    rw [ev_loop]
    refine Eq.trans (loop_list (Q := fun (_ : Unit) z => thenEnd E.P [] _ 0 (thenEv E _ _ _ _ _ (outOf 4 z)) = some (.own 0 false 3 1 ((under m 6).map (AV.int .i64)), [])) (List.range 6) goStep id
      (fun i _ => { sl := [(11, .own 0 false 4 1 (m.map AV.bool)), (15, .own 1 false 3 1 ((under m i).map (AV.int .i64))), (16, .int .i64 (i : Nat))], bx := [], nx := 2, nt := 82 })
      (fun _ _ => True) () ?_ ?_ (by simp; omega) trivial ?_) ?_
    · intro _ _
      have h7 : (List.range 6).length = 6 := rfl
      have n6 : ((6 : Nat) : Int) = 6 := rfl
      simp -implicitDefEqProofs only [W3, ↓D3, ↓DA, ↓DP, ↓DC, h7, n6, leaf_some, isNormal, ifEv_bool, Int.reduceToNat, id_eq, Int.reduceBEq, Int.reduceLE, Int.reduceLT, SH, Nat.reduceAdd, Nat.reduceEqDiff, Nat.reduceLT, Nat.reduceLeDiff, Nat.reduceMul, Nat.reduceSub, reduceIte]
    · intro pre x r' _ hs' _
      have hp5 : pre.length ≤ 5 := by have := congrArg List.length hs'; simp at this; omega
      have h5 : decide ((pre.length : Int) ≤ 5) = true := by simp; omega
      have hpm : ((pre.length : Nat) : Int) < ((m.length : Nat) : Int) := by omega
      have hget := idx_bools (m := m) (i := pre.length) (by omega)
      have hw1 : IntKind.i64.wrap ((pre.length : Int) + 1) = ((pre.length + 1 : Nat) : Int) := by rw [IntWalk.i64_in _ (by omega)]; omega
      have hu := under_len m pre.length
      have hA : ((under m pre.length).length + 1) * 8 ≤ 140737488355328 := by omega
      have hB : (under m pre.length).length ≤ 9223372036854775806 := by omega
      have hpl : plains [AV.int IntKind.i64 (pre.length : Int)] = true := rfl
      clear hs'
      have hsc := under_succ (m := m) (n := pre.length)
      generalize hv : (m[pre.length]?).getD false = v at hget hsc
      cases v <;> simp -implicitDefEqProofs only [Bool.false_eq_true, if_false, if_true] at hsc
      all_goals
        simp -implicitDefEqProofs only [W3, ↓D3, ↓DA, ↓DP, ↓DC, QX, h5, hpm, hget, hw1, hu, hA, hB, hpl, hsc, goStep, List.map_append, SH, keep_135_13, leaf_some, isNormal, Int.reduceToNat, id_eq, Int.reduceBEq, Int.reduceLE, Int.reduceLT, Nat.reduceAdd, Nat.reduceEqDiff, Nat.reduceLT, Nat.reduceLeDiff, Nat.reduceMul, Nat.reduceSub, reduceIte]
        repeat' (split <;> (rename_i h; (try simp -implicitDefEqProofs only [Bool.not_eq_true', Bool.not_eq_false', decide_eq_true_eq, decide_eq_false_iff_not] at h); (try simp -implicitDefEqProofs only [W3, ↓D3, ↓DA, ↓DP, ↓DC, QX, *, h5, hpm, hget, hw1, hu, hA, hB, hpl, hsc, goStep, List.map_append, SH, keep_135_13, leaf_some, isNormal, Int.reduceToNat, id_eq, Int.reduceBEq, Int.reduceLE, Int.reduceLT, Nat.reduceAdd, Nat.reduceEqDiff, Nat.reduceLT, Nat.reduceLeDiff, Nat.reduceMul, Nat.reduceSub, reduceIte])))
    · simp -implicitDefEqProofs only [firstRegion]
      rw [keep_135_13]
      have hu0 : under m 0 = [] := rfl
      simp -implicitDefEqProofs only [W3, ↓D3, ↓DA, ↓DP, ↓DC, hu0, Int.reduceToNat, id_eq, Int.reduceBEq, Int.reduceLE, Int.reduceLT, SH, Nat.reduceAdd, Nat.reduceEqDiff, Nat.reduceLT, Nat.reduceLeDiff, Nat.reduceMul, Nat.reduceSub, reduceIte]
    · rfl
  · intro pre x r' m hs' hm
    have hx := (at_row hs' hs).1; have hc := (at_row hs' hs).2.1; have hlt := (at_row hs' hs).2.2.1; have hw1 := (at_row hs' hs).2.2.2.1; have hl9 := (at_row hs' hs).2.2.2.2
    clear hs'
    have c3 := c1 x now age
    have hst : rolesStep l person now age pre.length x m = .inr (if roleFact person now age x = true then markAll m (rolesUnder l x.value) else m) := rfl
    have hrf : roleFact person now age x = (x.kind == 1 && (x.subject == person && holdsAt x now age)) := rfl
    cases e1 : (x.kind == 1) with
    | false =>
      simp -implicitDefEqProofs only [e1, Bool.false_and] at hrf
      simp -implicitDefEqProofs only [hrf, Bool.false_eq_true, if_false] at hst
      simp -implicitDefEqProofs only [W3, ↓D3, ↓DA, ↓DP, ↓DC, QX, enc_Fact, hx, hlt, hw1, e1, hst, hm, bne, SH, keep_135_3, leaf_some, isNormal, Int.reduceToNat, id_eq, Int.reduceBEq, Int.reduceLE, Int.reduceLT, Nat.reduceAdd, Nat.reduceEqDiff, Nat.reduceLT, Nat.reduceLeDiff, Nat.reduceMul, Nat.reduceSub, reduceIte]
      repeat' (split <;> (rename_i h; (try simp -implicitDefEqProofs only [Bool.not_eq_true', Bool.not_eq_false', decide_eq_true_eq, decide_eq_false_iff_not] at h); (try simp -implicitDefEqProofs only [W3, ↓D3, ↓DA, ↓DP, ↓DC, QX, *, enc_Fact, hx, hlt, hw1, e1, hst, hm, bne, SH, keep_135_3, leaf_some, isNormal, Int.reduceToNat, id_eq, Int.reduceBEq, Int.reduceLE, Int.reduceLT, Nat.reduceAdd, Nat.reduceEqDiff, Nat.reduceLT, Nat.reduceLeDiff, Nat.reduceMul, Nat.reduceSub, reduceIte])))
    | true =>
      cases e2 : (x.subject == person) with
      | false =>
        simp -implicitDefEqProofs only [e1, e2, Bool.false_and, Bool.and_false] at hrf
        simp -implicitDefEqProofs only [hrf, Bool.false_eq_true, if_false] at hst
        simp -implicitDefEqProofs only [W3, ↓D3, ↓DA, ↓DP, ↓DC, QX, enc_Fact, hx, hlt, hw1, e1, e2, hst, hm, bne, SH, keep_135_3, leaf_some, isNormal, Int.reduceToNat, id_eq, Int.reduceBEq, Int.reduceLE, Int.reduceLT, Nat.reduceAdd, Nat.reduceEqDiff, Nat.reduceLT, Nat.reduceLeDiff, Nat.reduceMul, Nat.reduceSub, reduceIte]
        repeat' (split <;> (rename_i h; (try simp -implicitDefEqProofs only [Bool.not_eq_true', Bool.not_eq_false', decide_eq_true_eq, decide_eq_false_iff_not] at h); (try simp -implicitDefEqProofs only [W3, ↓D3, ↓DA, ↓DP, ↓DC, QX, *, enc_Fact, hx, hlt, hw1, e1, e2, hst, hm, bne, SH, keep_135_3, leaf_some, isNormal, Int.reduceToNat, id_eq, Int.reduceBEq, Int.reduceLE, Int.reduceLT, Nat.reduceAdd, Nat.reduceEqDiff, Nat.reduceLT, Nat.reduceLeDiff, Nat.reduceMul, Nat.reduceSub, reduceIte])))
      | true =>
        cases e3 : holdsAt x now age with
        | false =>
          rw [e3] at c3
          simp -implicitDefEqProofs only [e1, e2, e3, Bool.and_false] at hrf
          simp -implicitDefEqProofs only [hrf, Bool.false_eq_true, if_false] at hst
          simp -implicitDefEqProofs only [W3, ↓D3, ↓DA, ↓DP, ↓DC, QX, enc_Fact, hx, hlt, hw1, c3, e1, e2, hst, hm, bne, SH, keep_135_3, leaf_some, isNormal, Int.reduceToNat, id_eq, Int.reduceBEq, Int.reduceLE, Int.reduceLT, Nat.reduceAdd, Nat.reduceEqDiff, Nat.reduceLT, Nat.reduceLeDiff, Nat.reduceMul, Nat.reduceSub, reduceIte]
          repeat' (split <;> (rename_i h; (try simp -implicitDefEqProofs only [Bool.not_eq_true', Bool.not_eq_false', decide_eq_true_eq, decide_eq_false_iff_not] at h); (try simp -implicitDefEqProofs only [W3, ↓D3, ↓DA, ↓DP, ↓DC, QX, *, enc_Fact, hx, hlt, hw1, c3, e1, e2, hst, hm, bne, SH, keep_135_3, leaf_some, isNormal, Int.reduceToNat, id_eq, Int.reduceBEq, Int.reduceLE, Int.reduceLT, Nat.reduceAdd, Nat.reduceEqDiff, Nat.reduceLT, Nat.reduceLeDiff, Nat.reduceMul, Nat.reduceSub, reduceIte])))
        | true =>
          rw [e3] at c3
          simp -implicitDefEqProofs only [e1, e2, e3, Bool.and_self] at hrf
          simp -implicitDefEqProofs only [hrf, if_true] at hst
          have c4 := c2 x.value
          simp -implicitDefEqProofs only [W4, ↓D4, ↓DA, ↓DP, ↓DC, QX, enc_Fact, hx, hlt, hw1, c3, c4, e1, e2, hst, hm, bne, scals_ints, SH, dedup, nodupB, idx, AV.rows, AV.rowss, AV.mapO, AV.mapOs, leaf_some, isNormal, Int.reduceToNat, id_eq, Int.reduceBEq, Int.reduceLE, Int.reduceLT, Nat.reduceAdd, Nat.reduceEqDiff, Nat.reduceLT, Nat.reduceLeDiff, Nat.reduceMul, Nat.reduceSub, reduceIte]
          repeat' (split <;> (rename_i h; (try simp -implicitDefEqProofs only [Bool.not_eq_true', Bool.not_eq_false', decide_eq_true_eq, decide_eq_false_iff_not] at h); (try simp -implicitDefEqProofs only [W4, ↓D4, ↓DA, ↓DP, ↓DC, QX, *, enc_Fact, hx, hlt, hw1, c3, c4, e1, e2, hst, hm, bne, scals_ints, SH, dedup, nodupB, idx, AV.rows, AV.rowss, AV.mapO, AV.mapOs, leaf_some, isNormal, Int.reduceToNat, id_eq, Int.reduceBEq, Int.reduceLE, Int.reduceLT, Nat.reduceAdd, Nat.reduceEqDiff, Nat.reduceLT, Nat.reduceLeDiff, Nat.reduceMul, Nat.reduceSub, reduceIte])))
          rw [ev_loop]
          refine loop_list (Q := fun g z => g = markAll m (rolesUnder l x.value) → Leaf (thenEv E _ _ _ _ _ (outOf 1 (outOf 2 z))) _) (rolesUnder l x.value) markStep id
            (fun j m => { sl := [(0, .sl fl (l.map (Includes.enc fl))), (1, .sl f2 (s.map (Fact.enc f2))), (2, .int .i64 person), (3, .int .i64 now), (4, .int .i64 age), (11, .own 0 false 4 1 (m.map AV.bool)), (12, .int .i64 (pre.length : Nat)), (13, .own 1 false 3 1 ((rolesUnder l x.value).map (AV.int .i64))), (14, .int .i64 (j : Nat))], bx := [], nx := 2, nt := 82 })
            (fun _ m => m.length = 6) m ?_ ?_ (by have := rolesUnder_len l x.value; omega) hm ?_ (markLoop _ _ _)
          · intro m' hm'
            simp -implicitDefEqProofs only [W4, ↓D4, ↓DA, ↓DP, ↓DC, leaf_some, isNormal, ifEv_bool, Int.reduceToNat, id_eq, Int.reduceBEq, Int.reduceLE, Int.reduceLT, SH, dedup, nodupB, idx, AV.rows, AV.rowss, AV.mapO, AV.mapOs, Nat.reduceAdd, Nat.reduceEqDiff, Nat.reduceLT, Nat.reduceLeDiff, Nat.reduceMul, Nat.reduceSub, reduceIte]
            intro he
            rw [← he]
            simp -implicitDefEqProofs only [W3, ↓D3, ↓DA, ↓DP, ↓DC, QX, hw1, hm', markAll_len, SH, keep_135_3, leaf_some, isNormal, Int.reduceToNat, id_eq, Int.reduceBEq, Int.reduceLE, Int.reduceLT, Nat.reduceAdd, Nat.reduceEqDiff, Nat.reduceLT, Nat.reduceLeDiff, Nat.reduceMul, Nat.reduceSub, reduceIte]
            repeat' (split <;> (rename_i h; (try simp -implicitDefEqProofs only [Bool.not_eq_true', Bool.not_eq_false', decide_eq_true_eq, decide_eq_false_iff_not] at h); (try simp -implicitDefEqProofs only [W3, ↓D3, ↓DA, ↓DP, ↓DC, QX, *, hw1, hm', markAll_len, SH, keep_135_3, leaf_some, isNormal, Int.reduceToNat, id_eq, Int.reduceBEq, Int.reduceLE, Int.reduceLT, Nat.reduceAdd, Nat.reduceEqDiff, Nat.reduceLT, Nat.reduceLeDiff, Nat.reduceMul, Nat.reduceSub, reduceIte])))
          · rintro pre2 c r2 m' hs2 hm'
            have hlen := rolesUnder_len l x.value
            have hx2 := (at_row hs2 (by omega)).1
            have hc2 := (at_row hs2 (by omega)).2.1
            have hlt2 := (at_row hs2 (by omega)).2.2.1
            have hw2 := (at_row hs2 (by omega)).2.2.2.1
            clear hs2
            have g1 := rolesUnder_range hc2
            have g2 : c.toNat < m'.length := by omega
            have g3 := idx_bools g2
            have n6 : ((6 : Nat) : Int) = 6 := rfl
            simp -implicitDefEqProofs only [W3, ↓D3, ↓DA, ↓DP, ↓DC, QX, hx2, hlt2, hw2, g1, g3, n6, hm', markStep, set_bools, List.length_set, SH, keep_135_8, leaf_some, isNormal, Int.reduceToNat, id_eq, Int.reduceBEq, Int.reduceLE, Int.reduceLT, Nat.reduceAdd, Nat.reduceEqDiff, Nat.reduceLT, Nat.reduceLeDiff, Nat.reduceMul, Nat.reduceSub, reduceIte]
            repeat' (split <;> (rename_i h; (try simp -implicitDefEqProofs only [Bool.not_eq_true', Bool.not_eq_false', decide_eq_true_eq, decide_eq_false_iff_not] at h); (try simp -implicitDefEqProofs only [W3, ↓D3, ↓DA, ↓DP, ↓DC, QX, *, hx2, hlt2, hw2, g1, g3, n6, hm', markStep, set_bools, List.length_set, SH, keep_135_8, leaf_some, isNormal, Int.reduceToNat, id_eq, Int.reduceBEq, Int.reduceLE, Int.reduceLT, Nat.reduceAdd, Nat.reduceEqDiff, Nat.reduceLT, Nat.reduceLeDiff, Nat.reduceMul, Nat.reduceSub, reduceIte])))
          · simp -implicitDefEqProofs only [firstRegion]
            rw [keep_135_8]
            simp -implicitDefEqProofs only [W3, ↓D3, ↓DA, ↓DP, ↓DC, Int.reduceToNat, id_eq, Int.reduceBEq, Int.reduceLE, Int.reduceLT, SH, Nat.reduceAdd, Nat.reduceEqDiff, Nat.reduceLT, Nat.reduceLeDiff, Nat.reduceMul, Nat.reduceSub, reduceIte]
  · simp -implicitDefEqProofs only [firstRegion]
    rw [keep_135_3]
    simp -implicitDefEqProofs only [W3, ↓D3, ↓DA, ↓DP, ↓DC, Int.reduceToNat, id_eq, Int.reduceBEq, Int.reduceLE, Int.reduceLT, SH, Nat.reduceAdd, Nat.reduceEqDiff, Nat.reduceLT, Nat.reduceLeDiff, Nat.reduceMul, Nat.reduceSub, reduceIte]
theorem all_tt {α : Type} {l : List α} : (l.all fun _ => true) = true := List.all_eq_true.2 fun _ _ => rfl
noncomputable def gatherStep (l : List Includes) (person now age : Int) (_ : Nat) (f : Fact) (out : List Int) : Sum (List Int) (List Int) := .inr (if roleFact person now age f = true then out ++ rolesUnder l f.value else out)
theorem gatherLoop (l : List Includes) (person now age : Int) : ∀ (s : List Fact) (i : Nat) (out : List Int), loopL (gatherStep l person now age) id i s out = out ++ rolesL l s person now age
  | [], i, out => by simp [loopL, rolesL]
  | f :: r, i, out => by
    simp -implicitDefEqProofs only [loopL, gatherStep]
    rw [gatherLoop l person now age r]
    unfold rolesL
    by_cases h : roleFact person now age f = true
    · rw [if_pos h, List.filter_cons_of_pos h, List.flatMap_cons, List.append_assoc]
    · rw [if_neg h, List.filter_cons_of_neg (by simpa using h)]
theorem r_impl_RolesOf {fl f2 : Bool} (k : Nat) (hk : 281474976710656 + 8 ≤ k) (l : List Includes) (hl : l.length ≤ 140737488355328) (s : List Fact) (hs0 : s.length ≤ 1099511627776) (person now age : Int) :
    run E noExt k 122 [.sl fl (l.map (Includes.enc fl)), .sl f2 (s.map (Fact.enc f2)), .int .i64 person, .int .i64 now, .int .i64 age] [] = some (.own 0 false 3 1 ((rolesOf l s person now age).map (AV.int .i64)), []) := by
  have hs : s.length ≤ 140737488355328 := by omega
  have c1 := r_impl_HoldsAt (fl := true) (k - 1) (by omega)
  have c2 := r_impl_RolesUnder (fl := fl) (k - 1) (by omega) l hl
  have c4 := r_sort (k - 1) (by omega) 3
  have c5 := r_compact (k - 1) (by omega) 3
  obtain ⟨k, rfl⟩ : ∃ j, k = j + 1 := ⟨k - 1, by omega⟩
  rw [run_succ rfl rfl, body_eq (nt := 47) (fn := Go.Proofs.Tryz.f122) (by kernel_rfl) rfl rfl rfl rfl rfl rfl rfl rfl]
  simp -implicitDefEqProofs only [Nat.add_sub_cancel, enc_Fact] at c1 c2 c4 c5
  simp -implicitDefEqProofs only [W4, ↓D4, ↓DA, ↓DP, ↓DC, Go.Proofs.Tryz.f122, ifEv_bool, Int.reduceToNat, id_eq, Int.reduceBEq, Int.reduceLE, Int.reduceLT, SH, dedup, nodupB, idx, AV.rows, AV.rowss, AV.mapO, AV.mapOs, Nat.reduceAdd, Nat.reduceEqDiff, Nat.reduceLT, Nat.reduceLeDiff, Nat.reduceMul, Nat.reduceSub, reduceIte]
  rw [ev_loop]
  refine loop_list (Q := fun g z => g = rolesL l s person now age → thenEnd E.P [] _ 0 (thenEv E _ _ _ _ _ (outOf 0 z)) = some (.own 0 false 3 1 ((rolesOf l s person now age).map (AV.int .i64)), [])) s (gatherStep l person now age) id
    (fun i out => { sl := [(0, .sl fl (l.map (Includes.enc fl))), (2, .int .i64 person), (3, .int .i64 now), (4, .int .i64 age), (11, .own 0 false 3 1 (out.map (AV.int .i64))), (15, .sl f2 (s.map (Fact.enc f2))), (16, .int .i64 (s.length : Nat)), (17, .int .i64 (i : Nat))], bx := [], nx := 1, nt := 47 })
    (fun i out => out.length ≤ 6 * i) [] ?_ ?_ (by omega) (by simp) ?_ (gatherLoop _ _ _ _ _ _ _)
  · intro out ho
    have c6 := c4 out (by omega)
    have c7 := c5 (ascending out)
    simp -implicitDefEqProofs only [W3, ↓D3, ↓DA, ↓DP, ↓DC, leaf_some, isNormal, ifEv_bool, c6, c7, scals_ints, Int.reduceToNat, id_eq, Int.reduceBEq, Int.reduceLE, Int.reduceLT, look_cons, reduceCtorEq, evCall, evGive, giveRows, ioBoxes, mutArgs, roArgs, handArg, mutSlots, isPtrB, pairs, pairss, back_nil, back_cons, backO, backE, setBoxes, importB, mode_mut, mode_give, mode_io, mode_ro, List.zip_cons_cons, List.zip_nil_left, List.zip_nil_right, ite_self, ite_true, ite_false, finish_give, finish_mut1, finish_io0, finish_io1, finish_io2, finish_io3, finish_ioc, finI, finC, finW_ptr, SH, Nat.reduceAdd, Nat.reduceEqDiff, Nat.reduceLT, Nat.reduceLeDiff, Nat.reduceMul, Nat.reduceSub, reduceIte]
    intro he
    rw [← rolesOf_eq, ← he]
    rfl
  · intro pre x r' out hs' ho
    have hx := (at_row hs' hs).1; have hc := (at_row hs' hs).2.1; have hlt := (at_row hs' hs).2.2.1; have hw1 := (at_row hs' hs).2.2.2.1; have hl9 := (at_row hs' hs).2.2.2.2
    clear hs'
    have c3 := c1 x now age
    have hst : gatherStep l person now age pre.length x out = .inr (if roleFact person now age x = true then out ++ rolesUnder l x.value else out) := rfl
    have hrf : roleFact person now age x = (x.kind == 1 && (x.subject == person && holdsAt x now age)) := rfl
    have hi : out.length ≤ 6 * (pre.length + 1) := by omega
    cases e1 : (x.kind == 1) with
    | false =>
      simp -implicitDefEqProofs only [e1, Bool.false_and] at hrf
      simp -implicitDefEqProofs only [hrf, Bool.false_eq_true, if_false] at hst
      simp -implicitDefEqProofs only [W3, ↓D3, ↓DA, ↓DP, ↓DC, QX, enc_Fact, hx, hlt, hw1, e1, hst, hi, SH, keep_122_3, leaf_some, isNormal, Int.reduceToNat, id_eq, Int.reduceBEq, Int.reduceLE, Int.reduceLT, Nat.reduceAdd, Nat.reduceEqDiff, Nat.reduceLT, Nat.reduceLeDiff, Nat.reduceMul, Nat.reduceSub, reduceIte]
      repeat' (split <;> (rename_i h; (try simp -implicitDefEqProofs only [Bool.not_eq_true', Bool.not_eq_false', decide_eq_true_eq, decide_eq_false_iff_not] at h); (try simp -implicitDefEqProofs only [W3, ↓D3, ↓DA, ↓DP, ↓DC, QX, *, enc_Fact, hx, hlt, hw1, e1, hst, hi, SH, keep_122_3, leaf_some, isNormal, Int.reduceToNat, id_eq, Int.reduceBEq, Int.reduceLE, Int.reduceLT, Nat.reduceAdd, Nat.reduceEqDiff, Nat.reduceLT, Nat.reduceLeDiff, Nat.reduceMul, Nat.reduceSub, reduceIte])))
    | true =>
      cases e2 : (x.subject == person) with
      | false =>
        simp -implicitDefEqProofs only [e1, e2, Bool.false_and, Bool.and_false] at hrf
        simp -implicitDefEqProofs only [hrf, Bool.false_eq_true, if_false] at hst
        simp -implicitDefEqProofs only [W3, ↓D3, ↓DA, ↓DP, ↓DC, QX, enc_Fact, hx, hlt, hw1, e1, e2, hst, hi, SH, keep_122_3, leaf_some, isNormal, Int.reduceToNat, id_eq, Int.reduceBEq, Int.reduceLE, Int.reduceLT, Nat.reduceAdd, Nat.reduceEqDiff, Nat.reduceLT, Nat.reduceLeDiff, Nat.reduceMul, Nat.reduceSub, reduceIte]
        repeat' (split <;> (rename_i h; (try simp -implicitDefEqProofs only [Bool.not_eq_true', Bool.not_eq_false', decide_eq_true_eq, decide_eq_false_iff_not] at h); (try simp -implicitDefEqProofs only [W3, ↓D3, ↓DA, ↓DP, ↓DC, QX, *, enc_Fact, hx, hlt, hw1, e1, e2, hst, hi, SH, keep_122_3, leaf_some, isNormal, Int.reduceToNat, id_eq, Int.reduceBEq, Int.reduceLE, Int.reduceLT, Nat.reduceAdd, Nat.reduceEqDiff, Nat.reduceLT, Nat.reduceLeDiff, Nat.reduceMul, Nat.reduceSub, reduceIte])))
      | true =>
        cases e3 : holdsAt x now age with
        | false =>
          rw [e3] at c3
          simp -implicitDefEqProofs only [e1, e2, e3, Bool.and_false] at hrf
          simp -implicitDefEqProofs only [hrf, Bool.false_eq_true, if_false] at hst
          simp -implicitDefEqProofs only [W3, ↓D3, ↓DA, ↓DP, ↓DC, QX, enc_Fact, hx, hlt, hw1, c3, e1, e2, hst, hi, SH, keep_122_3, leaf_some, isNormal, Int.reduceToNat, id_eq, Int.reduceBEq, Int.reduceLE, Int.reduceLT, Nat.reduceAdd, Nat.reduceEqDiff, Nat.reduceLT, Nat.reduceLeDiff, Nat.reduceMul, Nat.reduceSub, reduceIte]
          repeat' (split <;> (rename_i h; (try simp -implicitDefEqProofs only [Bool.not_eq_true', Bool.not_eq_false', decide_eq_true_eq, decide_eq_false_iff_not] at h); (try simp -implicitDefEqProofs only [W3, ↓D3, ↓DA, ↓DP, ↓DC, QX, *, enc_Fact, hx, hlt, hw1, c3, e1, e2, hst, hi, SH, keep_122_3, leaf_some, isNormal, Int.reduceToNat, id_eq, Int.reduceBEq, Int.reduceLE, Int.reduceLT, Nat.reduceAdd, Nat.reduceEqDiff, Nat.reduceLT, Nat.reduceLeDiff, Nat.reduceMul, Nat.reduceSub, reduceIte])))
        | true =>
          rw [e3] at c3
          simp -implicitDefEqProofs only [e1, e2, e3, Bool.and_self] at hrf
          simp -implicitDefEqProofs only [hrf, if_true] at hst
          have c8 := c2 x.value
          have hu := rolesUnder_len l x.value
          have hA : (out.length + (rolesUnder l x.value).length) * 8 ≤ 140737488355328 := by omega
          have hB : out.length + (rolesUnder l x.value).length ≤ 9223372036854775807 := by omega
          have hC : (out ++ rolesUnder l x.value).length ≤ 6 * (pre.length + 1) := by rw [List.length_append]; omega
          simp -implicitDefEqProofs only [W3, ↓D3, ↓DA, ↓DP, ↓DC, QX, enc_Fact, hx, hlt, hw1, c3, c8, e1, e2, hst, hi, hA, hB, hC, List.all_map, Function.comp_def, all_tt, plains_ints, scals_ints, List.map_append, SH, keep_122_3, leaf_some, isNormal, Int.reduceToNat, id_eq, Int.reduceBEq, Int.reduceLE, Int.reduceLT, Nat.reduceAdd, Nat.reduceEqDiff, Nat.reduceLT, Nat.reduceLeDiff, Nat.reduceMul, Nat.reduceSub, reduceIte]
          repeat' (split <;> (rename_i h; (try simp -implicitDefEqProofs only [Bool.not_eq_true', Bool.not_eq_false', decide_eq_true_eq, decide_eq_false_iff_not] at h); (try simp -implicitDefEqProofs only [W3, ↓D3, ↓DA, ↓DP, ↓DC, QX, *, enc_Fact, hx, hlt, hw1, c3, c8, e1, e2, hst, hi, hA, hB, hC, List.all_map, Function.comp_def, all_tt, plains_ints, scals_ints, List.map_append, SH, keep_122_3, leaf_some, isNormal, Int.reduceToNat, id_eq, Int.reduceBEq, Int.reduceLE, Int.reduceLT, Nat.reduceAdd, Nat.reduceEqDiff, Nat.reduceLT, Nat.reduceLeDiff, Nat.reduceMul, Nat.reduceSub, reduceIte])))
          all_goals trace_state
  · simp -implicitDefEqProofs only [firstRegion]
    rw [keep_122_3]
    simp -implicitDefEqProofs only [W3, ↓D3, ↓DA, ↓DP, ↓DC, Int.reduceToNat, id_eq, Int.reduceBEq, Int.reduceLE, Int.reduceLT, SH, Nat.reduceAdd, Nat.reduceEqDiff, Nat.reduceLT, Nat.reduceLeDiff, Nat.reduceMul, Nat.reduceSub, reduceIte]
    all_goals trace_state
def isFor (r : Rule) (a o : Int) : Bool := ((r.action == -1) || (r.action == a)) && ((r.object == -1) || (r.object == o))
theorem r_spec_IsFor {fl : Bool} (k : Nat) (hk : 281474976710656 + 1 ≤ k) (x : Rule) (a o : Int) : run E noExt k 48 [x.enc fl, .int .i64 a, .int .i64 o] [] = some (.bool (isFor x a o), []) := by
  obtain ⟨k, rfl⟩ : ∃ j, k = j + 1 := ⟨k - 1, by omega⟩
  rw [run_succ rfl rfl, body_eq (nt := 27) (fn := Go.Proofs.Tryz.f48) (by kernel_rfl) rfl rfl rfl rfl rfl rfl rfl rfl]
  simp -implicitDefEqProofs only [W1, ↓D1, ↓DC, QX, Go.Proofs.Tryz.f48, enc_Rule, Int.reduceToNat, id_eq, Int.reduceBEq, Int.reduceLE, Int.reduceLT, Nat.reduceAdd, Nat.reduceEqDiff, Nat.reduceLT, Nat.reduceLeDiff, Nat.reduceMul, Nat.reduceSub, reduceIte]
  repeat' (split <;> (rename_i h; (try simp -implicitDefEqProofs only [Bool.not_eq_true', Bool.not_eq_false', decide_eq_true_eq, decide_eq_false_iff_not] at h); (try simp -implicitDefEqProofs only [W1, ↓D1, ↓DC, QX, *, enc_Rule, Int.reduceToNat, id_eq, Int.reduceBEq, Int.reduceLE, Int.reduceLT, Nat.reduceAdd, Nat.reduceEqDiff, Nat.reduceLT, Nat.reduceLeDiff, Nat.reduceMul, Nat.reduceSub, reduceIte])))
  all_goals simp -implicitDefEqProofs only [isFor, *, Bool.true_and, Bool.false_and, Bool.and_true, Bool.and_false, Bool.or_true, Bool.true_or, Bool.false_or]
theorem r_impl_IsFor {fl : Bool} (k : Nat) (hk : 281474976710656 + 1 ≤ k) (x : Rule) (a o : Int) : run E noExt k 57 [x.enc fl, .int .i64 a, .int .i64 o] [] = some (.bool (isFor x a o), []) := by
  obtain ⟨k, rfl⟩ : ∃ j, k = j + 1 := ⟨k - 1, by omega⟩
  rw [run_succ rfl rfl, body_eq (nt := 27) (fn := Go.Proofs.Tryz.f57) (by kernel_rfl) rfl rfl rfl rfl rfl rfl rfl rfl]
  simp -implicitDefEqProofs only [W1, ↓D1, ↓DC, QX, Go.Proofs.Tryz.f57, enc_Rule, Int.reduceToNat, id_eq, Int.reduceBEq, Int.reduceLE, Int.reduceLT, Nat.reduceAdd, Nat.reduceEqDiff, Nat.reduceLT, Nat.reduceLeDiff, Nat.reduceMul, Nat.reduceSub, reduceIte]
  repeat' (split <;> (rename_i h; (try simp -implicitDefEqProofs only [Bool.not_eq_true', Bool.not_eq_false', decide_eq_true_eq, decide_eq_false_iff_not] at h); (try simp -implicitDefEqProofs only [W1, ↓D1, ↓DC, QX, *, enc_Rule, Int.reduceToNat, id_eq, Int.reduceBEq, Int.reduceLE, Int.reduceLT, Nat.reduceAdd, Nat.reduceEqDiff, Nat.reduceLT, Nat.reduceLeDiff, Nat.reduceMul, Nat.reduceSub, reduceIte])))
  all_goals simp -implicitDefEqProofs only [isFor, *, Bool.true_and, Bool.false_and, Bool.and_true, Bool.and_false, Bool.or_true, Bool.true_or, Bool.false_or]
def meet (r s : Rule) : Bool := (((r.action == s.action) || (r.action == -1)) || (s.action == -1)) && (((r.object == s.object) || (r.object == -1)) || (s.object == -1))
end Go.Proofs.YtaojmienjikfbaaGreatDoor.Flat
