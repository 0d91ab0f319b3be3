/-
A condition over time: until when it holds, whether it never holds.
-/
import Derived.Test.YtfljmpjckeopgaaGreatEqB
set_option linter.unusedVariables false
set_option linter.unusedSimpArgs false
set_option maxRecDepth 10000
namespace Go.Proofs.YtfljmpjckeopgaaGreat.Flat
def atTime (q : Request) (n : Int) : Request := { q with now := n }
theorem r_spec_AtTime {fl : Bool} (k : Nat) (hk : 281474976710656 + 1 ≤ k) (q : Request) (n : Int) : run E noExt k 67 [q.enc fl, .int .i64 n] [] = some ((atTime q n).enc fl, []) := by
  obtain ⟨k, rfl⟩ : ∃ j, k = j + 1 := ⟨k - 1, by omega⟩
  rw [run_succ rfl rfl, body_eq (nt := 8) (fn := Go.Proofs.Tryz.f67) (by kernel_rfl) rfl rfl rfl rfl rfl rfl rfl rfl]
  simp -implicitDefEqProofs only [QS, QN, Go.Proofs.Tryz.f67, atTime, enc_Request, SN, evCutRow, Int.reduceToNat, id_eq, Int.reduceBEq, Int.reduceLE, Int.reduceLT, SS, TIS, MDS, wanted, numbered, plainC, plainS, evEq, eqK, evBox, evAlloc, evStore, evLoad, evFieldAddr, behind, takeVal, AV.cells, AV.isCell, ofCells, ofCell, Value.cells, Nat.reduceAdd, Nat.reduceEqDiff, Nat.reduceLT, Nat.reduceLeDiff, Nat.reduceMul, Nat.reduceSub, reduceIte]
theorem r_impl_AtTime {fl : Bool} (k : Nat) (hk : 281474976710656 + 1 ≤ k) (q : Request) (n : Int) : run E noExt k 72 [q.enc fl, .int .i64 n] [] = some ((atTime q n).enc fl, []) := by
  obtain ⟨k, rfl⟩ : ∃ j, k = j + 1 := ⟨k - 1, by omega⟩
  rw [run_succ rfl rfl, body_eq (nt := 8) (fn := Go.Proofs.Tryz.f72) (by kernel_rfl) rfl rfl rfl rfl rfl rfl rfl rfl]
  simp -implicitDefEqProofs only [QS, QN, Go.Proofs.Tryz.f72, atTime, enc_Request, SN, evCutRow, Int.reduceToNat, id_eq, Int.reduceBEq, Int.reduceLE, Int.reduceLT, SS, TIS, MDS, wanted, numbered, plainC, plainS, evEq, eqK, evBox, evAlloc, evStore, evLoad, evFieldAddr, behind, takeVal, AV.cells, AV.isCell, ofCells, ofCell, Value.cells, Nat.reduceAdd, Nat.reduceEqDiff, Nat.reduceLT, Nat.reduceLeDiff, Nat.reduceMul, Nat.reduceSub, reduceIte]
/-- How many of the first n are true before the first that is not, from i. -/
def lead (g : Nat → Bool) : Nat → Nat → Nat
  | 0, i => i
  | n + 1, i => if g i = true then lead g n (i + 1) else i
theorem lead_lt (g : Nat → Bool) : ∀ (n i j : Nat), i ≤ j → j < lead g n i → g j = true
  | 0, i, j, h, h' => by simp [lead] at h'; omega
  | n + 1, i, j, h, h' => by
    unfold lead at h'
    split at h'
    · by_cases e : i = j
      · subst e; assumption
      · exact lead_lt g n (i + 1) j (by omega) h'
    · omega
theorem lead_end (g : Nat → Bool) : ∀ (n i : Nat), lead g n i < i + n → g (lead g n i) = false
  | 0, i, h => by simp [lead] at h
  | n + 1, i, h => by
    unfold lead at h ⊢
    split
    · rename_i e
      rw [if_pos e] at h
      exact lead_end g n (i + 1) (by omega)
    · rename_i e
      simpa using e
noncomputable def sameAt (l : List Includes) (s : List Fact) (x : Cond) (q : Request) (most : Int) (i : Nat) : Bool :=
  decide (q.now + i < q.now + most) && (decide (q.now + i < 10000) && (evalAt l s (atTime q (q.now + ((i + 1 : Nat) : Int))) x == evalAt l s q x))
noncomputable def holdsUntil (l : List Includes) (s : List Fact) (x : Cond) (q : Request) (most : Int) : Int :=
  if (isRequest q && inR most 0 60) = true then q.now + (lead (sameAt l s x q most) 61 0 : Nat) else q.now
theorem isRequest_now {q : Request} (h : isRequest q = true) : 0 ≤ q.now ∧ q.now ≤ 10000 := by
  unfold isRequest isT at h
  simp -implicitDefEqProofs only [Bool.and_eq_true, inR, decide_eq_true_eq] at h
  omega
theorem lead_same {l : List Includes} {s : List Fact} {x : Cond} {q : Request} {most : Int} (h : most ≤ 60) : lead (sameAt l s x q most) 61 0 ≤ 60 ∧ sameAt l s x q most (lead (sameAt l s x q most) 61 0) = false := by
  have h1 : ∀ j, j < lead (sameAt l s x q most) 61 0 → sameAt l s x q most j = true := fun j hj => lead_lt _ 61 0 j (by omega) hj
  have h2 : lead (sameAt l s x q most) 61 0 ≤ 60 := by
    by_cases e : lead (sameAt l s x q most) 61 0 ≤ 60
    · exact e
    · have := h1 60 (by omega)
      unfold sameAt at this
      simp -implicitDefEqProofs only [Bool.and_eq_true, decide_eq_true_eq] at this
      omega
  exact ⟨h2, lead_end _ 61 0 (by omega)⟩
theorem r_spec_NeverHolds {fl f2 f3 f4 : Bool} (k : Nat) (hk : 294669116243968 + 15 ≤ k) (x : Cond) (hx : x.w ≤ 1099511627776) (t : List Request) (ht : t.length ≤ 140737488355328) (l : List Includes) (hl : l.length ≤ 140737488355328) (s : List Fact) (hs : s.length ≤ 140737488355328) :
    run E noExt k 35 [x.enc f3, .sl f4 (t.map (Request.enc f4)), .sl fl (l.map (Includes.enc fl)), .sl f2 (s.map (Fact.enc f2))] [] = some (.bool (!(t.any fun q => evalAt l s q x)), []) := by
  have c1 := r_spec_EvalCond (fl := fl) (f2 := f2) (f3 := f3) (f4 := f4) (k - 1) (by omega) l hl s hs x hx
  obtain ⟨k, rfl⟩ : ∃ j, k = j + 1 := ⟨k - 1, by omega⟩
  rw [run_succ rfl rfl, body_eq (nt := 24) (fn := Go.Proofs.Tryz.f35) (by kernel_rfl) rfl rfl rfl rfl rfl rfl rfl rfl]
  simp -implicitDefEqProofs only [Nat.add_sub_cancel, enc_Cond] at c1
  simp -implicitDefEqProofs only [QS, QN, Go.Proofs.Tryz.f35, enc_Cond, SN, evCutRow, Int.reduceToNat, id_eq, Int.reduceBEq, Int.reduceLE, Int.reduceLT, SS, TIS, MDS, wanted, numbered, plainC, plainS, evEq, eqK, evBox, evAlloc, evStore, evLoad, evFieldAddr, behind, takeVal, AV.cells, AV.isCell, ofCells, ofCell, Value.cells, Nat.reduceAdd, Nat.reduceEqDiff, Nat.reduceLT, Nat.reduceLeDiff, Nat.reduceMul, Nat.reduceSub, reduceIte]
  rw [ev_loop]
  refine Eq.trans (loop_list (Q := fun g x => thenEnd E.P [] _ 0 (thenEv E _ _ _ _ _ (outOf 0 x)) = some (.bool g, [])) (t) (allStep (fun q => !evalAt l s q x)) (fun _ => true)
    (fun i b => { sl := [(1, .sl f4 (t.map (Request.enc f4))), (2, .sl fl (l.map (Includes.enc fl))), (3, .sl f2 (s.map (Fact.enc f2))), (4, .ptr 0 0), (9, .int .i64 (i : Nat))], bx := [(0, [.int .i64 x.op, .int .i64 x.a, .int .i64 x.b, .sl f3 (x.args.map (Cond.enc f3))])], nx := 1, nt := 24 }) (fun _ _ => True) (()) ?_ ?_ (by first | omega | (simp; omega)) (trivial) ?_) ?_
  · intro b _
    simp -implicitDefEqProofs only [QS, QN, QG, leaf_some, isNormal, ifEv_bool, gate_bool, gateP_bool, gateQ_bool, pick_bool, SN, evCutRow, Int.reduceToNat, id_eq, Int.reduceBEq, Int.reduceLE, Int.reduceLT, firstRegion, gc, keptBoxes, keptRows, dedup, nodupB, idx, renameB, AV.boxes, AV.boxess, AV.rows, AV.rowss, AV.mapO, AV.mapOs, SS, TIS, MDS, wanted, numbered, plainC, plainS, evEq, eqK, evBox, evAlloc, evStore, evLoad, evFieldAddr, behind, takeVal, AV.cells, AV.isCell, ofCells, ofCell, Value.cells, Nat.reduceAdd, Nat.reduceEqDiff, Nat.reduceLT, Nat.reduceLeDiff, Nat.reduceMul, Nat.reduceSub, reduceIte]
    repeat' (split <;> (rename_i h; (try simp -implicitDefEqProofs only [Bool.not_eq_true', Bool.not_eq_false', decide_eq_true_eq, decide_eq_false_iff_not] at h); (try simp -implicitDefEqProofs only [QS, QN, QG, *, leaf_some, isNormal, ifEv_bool, gate_bool, gateP_bool, gateQ_bool, pick_bool, SN, evCutRow, Int.reduceToNat, id_eq, Int.reduceBEq, Int.reduceLE, Int.reduceLT, firstRegion, gc, keptBoxes, keptRows, dedup, nodupB, idx, renameB, AV.boxes, AV.boxess, AV.rows, AV.rowss, AV.mapO, AV.mapOs, SS, TIS, MDS, wanted, numbered, plainC, plainS, evEq, eqK, evBox, evAlloc, evStore, evLoad, evFieldAddr, behind, takeVal, AV.cells, AV.isCell, ofCells, ofCell, Value.cells, Nat.reduceAdd, Nat.reduceEqDiff, Nat.reduceLT, Nat.reduceLeDiff, Nat.reduceMul, Nat.reduceSub, reduceIte])))
  · intro pre c r b hs' _
    have hx := (at_row hs' ht).1; have hc := (at_row hs' ht).2.1; have hlt := (at_row hs' ht).2.2.1; have hw1 := (at_row hs' ht).2.2.2.1; have hl9 := (at_row hs' ht).2.2.2.2
    clear hs'
    have c2 := c1 c
    simp -implicitDefEqProofs only [enc_Request] at c2
    cases e : evalAt l s c x <;> rw [e] at c2
    all_goals
      simp -implicitDefEqProofs only [QS, QN, QG, enc_Request, hx, hlt, hw1, c2, e, allStep, plan_35_4, keep_35_2, leaf_some, isNormal, ifEv_bool, gate_bool, gateP_bool, gateQ_bool, pick_bool, SN, evCutRow, Int.reduceToNat, id_eq, Int.reduceBEq, Int.reduceLE, Int.reduceLT, firstRegion, gc, keptBoxes, keptRows, dedup, nodupB, idx, renameB, AV.boxes, AV.boxess, AV.rows, AV.rowss, AV.mapO, AV.mapOs, SS, TIS, MDS, wanted, numbered, plainC, plainS, evEq, eqK, evBox, evAlloc, evStore, evLoad, evFieldAddr, behind, takeVal, AV.cells, AV.isCell, ofCells, ofCell, Value.cells, Nat.reduceAdd, Nat.reduceEqDiff, Nat.reduceLT, Nat.reduceLeDiff, Nat.reduceMul, Nat.reduceSub, reduceIte]
      repeat' (split <;> (rename_i h; (try simp -implicitDefEqProofs only [Bool.not_eq_true', Bool.not_eq_false', decide_eq_true_eq, decide_eq_false_iff_not] at h); (try simp -implicitDefEqProofs only [QS, QN, QG, *, enc_Request, hx, hlt, hw1, c2, e, allStep, plan_35_4, keep_35_2, leaf_some, isNormal, ifEv_bool, gate_bool, gateP_bool, gateQ_bool, pick_bool, SN, evCutRow, Int.reduceToNat, id_eq, Int.reduceBEq, Int.reduceLE, Int.reduceLT, firstRegion, gc, keptBoxes, keptRows, dedup, nodupB, idx, renameB, AV.boxes, AV.boxess, AV.rows, AV.rowss, AV.mapO, AV.mapOs, SS, TIS, MDS, wanted, numbered, plainC, plainS, evEq, eqK, evBox, evAlloc, evStore, evLoad, evFieldAddr, behind, takeVal, AV.cells, AV.isCell, ofCells, ofCell, Value.cells, Nat.reduceAdd, Nat.reduceEqDiff, Nat.reduceLT, Nat.reduceLeDiff, Nat.reduceMul, Nat.reduceSub, reduceIte])))
  · simp -implicitDefEqProofs only [firstRegion]; rw [keep_35_2]; simp -implicitDefEqProofs only [QS, QN, QG, SN, evCutRow, Int.reduceToNat, id_eq, Int.reduceBEq, Int.reduceLE, Int.reduceLT, firstRegion, gc, keptBoxes, keptRows, dedup, nodupB, idx, renameB, AV.boxes, AV.boxess, AV.rows, AV.rowss, AV.mapO, AV.mapOs, SS, TIS, MDS, wanted, numbered, plainC, plainS, evEq, eqK, evBox, evAlloc, evStore, evLoad, evFieldAddr, behind, takeVal, AV.cells, AV.isCell, ofCells, ofCell, Value.cells, Nat.reduceAdd, Nat.reduceEqDiff, Nat.reduceLT, Nat.reduceLeDiff, Nat.reduceMul, Nat.reduceSub, reduceIte]; first | done | rfl
  · rw [allLoop, List.not_any_eq_all_not]
theorem r_impl_NeverHolds1 {fl f2 f3 f4 : Bool} (k : Nat) (hk : 884940186000000 + 8 ≤ k) (x : Cond) (hx : x.w ≤ 1099511627776) (q : Request) (l : List Includes) (hl : l.length ≤ 140737488355328) (s : List Fact) (hs : s.length ≤ 1099511627776) :
    run E noExt k 75 ([q.enc f4] ++ [.cptr [.sl fl (l.map (Includes.enc fl))], .cptr [.sl f2 (s.map (Fact.enc f2))], .cptr [.int .i64 x.op, .int .i64 x.a, .int .i64 x.b, .sl f3 (x.args.map (Cond.enc f3))]]) [] = some (.bool (evalAt l s q x), []) := by
  have c1 := r_impl_EvalCond (fl := fl) (f2 := f2) (f3 := f3) (f4 := f4) (k - 1) (by omega) l hl s hs x hx q
  simp -implicitDefEqProofs only [List.cons_append, List.nil_append]
  obtain ⟨k, rfl⟩ : ∃ j, k = j + 1 := ⟨k - 1, by omega⟩
  rw [run_succ rfl rfl, body_eq (nt := 11) (fn := Go.Proofs.Tryz.f75) (by kernel_rfl) rfl rfl rfl rfl rfl rfl rfl rfl]
  simp -implicitDefEqProofs only [Nat.add_sub_cancel, enc_Cond, enc_Request] at c1
  simp -implicitDefEqProofs only [QS, QN, Go.Proofs.Tryz.f75, enc_Request, c1, SN, evCutRow, Int.reduceToNat, id_eq, Int.reduceBEq, Int.reduceLE, Int.reduceLT, SS, TIS, MDS, wanted, numbered, plainC, plainS, evEq, eqK, evBox, evAlloc, evStore, evLoad, evFieldAddr, behind, takeVal, AV.cells, AV.isCell, ofCells, ofCell, Value.cells, Nat.reduceAdd, Nat.reduceEqDiff, Nat.reduceLT, Nat.reduceLeDiff, Nat.reduceMul, Nat.reduceSub, reduceIte]
theorem r_impl_NeverHolds {fl f2 f3 f4 : Bool} (k : Nat) (hk : 884940186000000 + 11 ≤ k) (x : Cond) (hx : x.w ≤ 1099511627776) (t : List Request) (ht : t.length ≤ 140737488355328) (l : List Includes) (hl : l.length ≤ 140737488355328) (s : List Fact) (hs : s.length ≤ 1099511627776) :
    run E noExt k 37 [x.enc f3, .sl f4 (t.map (Request.enc f4)), .sl fl (l.map (Includes.enc fl)), .sl f2 (s.map (Fact.enc f2))] [] = some (.bool (!(t.any fun q => evalAt l s q x)), []) := by
  have c2 := r_slices_ContainsFunc_Request (fl := f4) (k - 1) t (by omega) ht 75 [.cptr [.sl fl (l.map (Includes.enc fl))], .cptr [.sl f2 (s.map (Fact.enc f2))], .cptr [.int .i64 x.op, .int .i64 x.a, .int .i64 x.b, .sl f3 (x.args.map (Cond.enc f3))]] (plain_of rfl) (fun q => evalAt l s q x) (fun q _ => r_impl_NeverHolds1 _ (by omega) x hx q l hl s hs)
  obtain ⟨k, rfl⟩ : ∃ j, k = j + 1 := ⟨k - 1, by omega⟩
  rw [run_succ rfl rfl, body_eq (nt := 13) (fn := Go.Proofs.Tryz.f37) (by kernel_rfl) rfl rfl rfl rfl rfl rfl rfl rfl]
  simp -implicitDefEqProofs only [Nat.add_sub_cancel] at c2
  simp -implicitDefEqProofs only [QS, QN, Go.Proofs.Tryz.f37, enc_Cond, c2, SN, evCutRow, Int.reduceToNat, id_eq, Int.reduceBEq, Int.reduceLE, Int.reduceLT, SS, TIS, MDS, wanted, numbered, plainC, plainS, evEq, eqK, evBox, evAlloc, evStore, evLoad, evFieldAddr, behind, takeVal, AV.cells, AV.isCell, ofCells, ofCell, Value.cells, Nat.reduceAdd, Nat.reduceEqDiff, Nat.reduceLT, Nat.reduceLeDiff, Nat.reduceMul, Nat.reduceSub, reduceIte]
theorem enc_atTime {fl : Bool} {q : Request} {n : Int} : (atTime q n).enc fl = .agg [.int .i64 q.person, .int .i64 q.device, .int .i64 q.program, .int .i64 q.action, .int .i64 q.object, .int .i64 n] := rfl
theorem r_spec_HoldsUntil {fl f2 f3 f4 : Bool} (k : Nat) (hk : 294669116243968 + 15 ≤ k) (l : List Includes) (hl : l.length ≤ 140737488355328) (s : List Fact) (hs : s.length ≤ 140737488355328) (x : Cond) (hx : x.w ≤ 1099511627776) (q : Request) (most : Int) :
    run E noExt k 30 [.sl fl (l.map (Includes.enc fl)), .sl f2 (s.map (Fact.enc f2)), x.enc f3, q.enc f4, .int .i64 most] [] = some (.int .i64 (holdsUntil l s x q most), []) := by
  have c1 := r_spec_IsRequest (fl := f4) (k - 1) (by omega) q
  have c2 := r_spec_l1In (k - 1) (by omega) most 0 60
  have c3 := r_spec_EvalCond (fl := fl) (f2 := f2) (f3 := f3) (f4 := f4) (k - 1) (by omega) l hl s hs x hx
  have c4 := r_spec_AtTime (fl := f4) (k - 1) (by omega) q
  have c5 := c3 q
  unfold holdsUntil
  obtain ⟨k, rfl⟩ : ∃ j, k = j + 1 := ⟨k - 1, by omega⟩
  rw [run_succ rfl rfl, body_eq (nt := 55) (fn := Go.Proofs.Tryz.f30) (by kernel_rfl) rfl rfl rfl rfl rfl rfl rfl rfl]
  simp -implicitDefEqProofs only [Nat.add_sub_cancel, enc_Cond, enc_atTime] at c1 c2 c3 c4 c5
  simp -implicitDefEqProofs only [enc_Request] at c1 c4 c5
  cases e1 : isRequest q with
  | false =>
    rw [e1] at c1
    simp -implicitDefEqProofs only [QS, QN, Go.Proofs.Tryz.f30, enc_Cond, enc_Request, c1, c2, ifEv_bool, gate_bool, gateP_bool, gateQ_bool, pick_bool, SN, evCutRow, Int.reduceToNat, id_eq, Int.reduceBEq, Int.reduceLE, Int.reduceLT, SS, TIS, MDS, wanted, numbered, plainC, plainS, evEq, eqK, evBox, evAlloc, evStore, evLoad, evFieldAddr, behind, takeVal, AV.cells, AV.isCell, ofCells, ofCell, Value.cells, Nat.reduceAdd, Nat.reduceEqDiff, Nat.reduceLT, Nat.reduceLeDiff, Nat.reduceMul, Nat.reduceSub, reduceIte]
  | true =>
    cases e2 : inR most 0 60 with
    | false =>
      rw [e1] at c1
      rw [e2] at c2
      simp -implicitDefEqProofs only [QS, QN, Go.Proofs.Tryz.f30, enc_Cond, enc_Request, c1, c2, ifEv_bool, gate_bool, gateP_bool, gateQ_bool, pick_bool, SN, evCutRow, Int.reduceToNat, id_eq, Int.reduceBEq, Int.reduceLE, Int.reduceLT, SS, TIS, MDS, wanted, numbered, plainC, plainS, evEq, eqK, evBox, evAlloc, evStore, evLoad, evFieldAddr, behind, takeVal, AV.cells, AV.isCell, ofCells, ofCell, Value.cells, Nat.reduceAdd, Nat.reduceEqDiff, Nat.reduceLT, Nat.reduceLeDiff, Nat.reduceMul, Nat.reduceSub, reduceIte]
    | true =>
      rw [e1] at c1
      rw [e2] at c2
      have hn := isRequest_now e1
      have hm : 0 ≤ most ∧ most ≤ 60 := by simpa [inR] using e2
      obtain ⟨hN, hE⟩ := lead_same (l := l) (s := s) (x := x) (q := q) (most := most) hm.2
      have hL : ∀ j, j < lead (sameAt l s x q most) 61 0 → sameAt l s x q most j = true := fun j hj => lead_lt _ 61 0 j (by omega) hj
      generalize hN0 : lead (sameAt l s x q most) 61 0 = N at hN hE hL
      have hw : IntKind.i64.wrap (q.now + most) = q.now + most := IntWalk.i64_in _ (by omega)
      simp -implicitDefEqProofs only [QS, QN, Go.Proofs.Tryz.f30, enc_Cond, enc_Request, c1, c2, c5, Bool.and_self, ifEv_bool, gate_bool, gateP_bool, gateQ_bool, pick_bool, SN, evCutRow, Int.reduceToNat, id_eq, Int.reduceBEq, Int.reduceLE, Int.reduceLT, SS, TIS, MDS, wanted, numbered, plainC, plainS, evEq, eqK, evBox, evAlloc, evStore, evLoad, evFieldAddr, behind, takeVal, AV.cells, AV.isCell, ofCells, ofCell, Value.cells, Nat.reduceAdd, Nat.reduceEqDiff, Nat.reduceLT, Nat.reduceLeDiff, Nat.reduceMul, Nat.reduceSub, reduceIte]
      rw [ev_loop]
      refine Eq.trans (loop_list (Q := fun (_ : Unit) z => thenEnd E.P [] _ 0 (thenEv E _ _ _ _ _ (outOf 0 z)) = some (.int .i64 (q.now + (N : Nat)), [])) (List.range N) goStep id
        (fun i _ => { sl := [(0, .sl fl (l.map (Includes.enc fl))), (1, .sl f2 (s.map (Fact.enc f2))), (4, .int .i64 most), (7, .ptr 0 0), (8, .ptr 1 0), (11, .bool (evalAt l s q x)), (12, .int .i64 (q.now + (i : Nat)))],
                      bx := [(0, [.int .i64 x.op, .int .i64 x.a, .int .i64 x.b, .sl f3 (x.args.map (Cond.enc f3))]), (1, [.int .i64 q.person, .int .i64 q.device, .int .i64 q.program, .int .i64 q.action, .int .i64 q.object, .int .i64 q.now])], nx := 2, nt := 55 })
        (fun _ _ => True) () ?_ ?_ (by simp; omega) trivial ?_) ?_
      · intro _ _
        have hw1 : IntKind.i64.wrap (q.now + ((List.range N).length : Nat) + 1) = q.now + ((N + 1 : Nat) : Int) := by rw [List.length_range, IntWalk.i64_in _ (by omega)]; omega
        have c6 := c3 (atTime q (q.now + ((N + 1 : Nat) : Int)))
        have c7 := c4 (q.now + ((N + 1 : Nat) : Int))
        unfold sameAt at hE
        simp -implicitDefEqProofs only [enc_atTime] at c6
        rw [List.length_range] at hw1
        generalize evalAt l s (atTime q (q.now + ((N + 1 : Nat) : Int))) x = b1 at c6 hE
        generalize evalAt l s q x = b2 at c5 hE
        cases e3 : decide (q.now + (N : Nat) < q.now + most) with
        | false =>
          have e3' : (q.now + ((N : Nat) : Int) < q.now + most) = False := eq_false (of_decide_eq_false e3)
          simp -implicitDefEqProofs only [QS, QN, List.length_range, hw, hw1, e3, e3', plan_30_5, leaf_some, isNormal, ifEv_bool, gate_bool, gateP_bool, gateQ_bool, pick_bool, SN, evCutRow, Int.reduceToNat, id_eq, Int.reduceBEq, Int.reduceLE, Int.reduceLT, SS, TIS, MDS, wanted, numbered, plainC, plainS, evEq, eqK, evBox, evAlloc, evStore, evLoad, evFieldAddr, behind, takeVal, AV.cells, AV.isCell, ofCells, ofCell, Value.cells, Nat.reduceAdd, Nat.reduceEqDiff, Nat.reduceLT, Nat.reduceLeDiff, Nat.reduceMul, Nat.reduceSub, reduceIte]
          repeat' (split <;> (rename_i h; (try simp -implicitDefEqProofs only [Bool.not_eq_true', Bool.not_eq_false', decide_eq_true_eq, decide_eq_false_iff_not] at h); (try simp -implicitDefEqProofs only [QS, QN, *, List.length_range, hw, hw1, e3, e3', plan_30_5, leaf_some, isNormal, ifEv_bool, gate_bool, gateP_bool, gateQ_bool, pick_bool, SN, evCutRow, Int.reduceToNat, id_eq, Int.reduceBEq, Int.reduceLE, Int.reduceLT, SS, TIS, MDS, wanted, numbered, plainC, plainS, evEq, eqK, evBox, evAlloc, evStore, evLoad, evFieldAddr, behind, takeVal, AV.cells, AV.isCell, ofCells, ofCell, Value.cells, Nat.reduceAdd, Nat.reduceEqDiff, Nat.reduceLT, Nat.reduceLeDiff, Nat.reduceMul, Nat.reduceSub, reduceIte])))
        | true =>
          have e3' : (q.now + ((N : Nat) : Int) < q.now + most) = True := eq_true (of_decide_eq_true e3)
          cases e4 : decide (q.now + ((N : Nat) : Int) < 10000) with
          | false =>
            have e4' : (q.now + ((N : Nat) : Int) < 10000) = False := eq_false (of_decide_eq_false e4)
            simp -implicitDefEqProofs only [QS, QN, List.length_range, hw, hw1, e3, e3', e4, e4', plan_30_5, leaf_some, isNormal, ifEv_bool, gate_bool, gateP_bool, gateQ_bool, pick_bool, SN, evCutRow, Int.reduceToNat, id_eq, Int.reduceBEq, Int.reduceLE, Int.reduceLT, SS, TIS, MDS, wanted, numbered, plainC, plainS, evEq, eqK, evBox, evAlloc, evStore, evLoad, evFieldAddr, behind, takeVal, AV.cells, AV.isCell, ofCells, ofCell, Value.cells, Nat.reduceAdd, Nat.reduceEqDiff, Nat.reduceLT, Nat.reduceLeDiff, Nat.reduceMul, Nat.reduceSub, reduceIte]
            repeat' (split <;> (rename_i h; (try simp -implicitDefEqProofs only [Bool.not_eq_true', Bool.not_eq_false', decide_eq_true_eq, decide_eq_false_iff_not] at h); (try simp -implicitDefEqProofs only [QS, QN, *, List.length_range, hw, hw1, e3, e3', e4, e4', plan_30_5, leaf_some, isNormal, ifEv_bool, gate_bool, gateP_bool, gateQ_bool, pick_bool, SN, evCutRow, Int.reduceToNat, id_eq, Int.reduceBEq, Int.reduceLE, Int.reduceLT, SS, TIS, MDS, wanted, numbered, plainC, plainS, evEq, eqK, evBox, evAlloc, evStore, evLoad, evFieldAddr, behind, takeVal, AV.cells, AV.isCell, ofCells, ofCell, Value.cells, Nat.reduceAdd, Nat.reduceEqDiff, Nat.reduceLT, Nat.reduceLeDiff, Nat.reduceMul, Nat.reduceSub, reduceIte])))
          | true =>
            have e4' : (q.now + ((N : Nat) : Int) < 10000) = True := eq_true (of_decide_eq_true e4)
            simp -implicitDefEqProofs only [e3, e4, Bool.true_and] at hE
            cases b1 <;> cases b2 <;> first
              | (exact absurd hE (by decide))
              | (simp -implicitDefEqProofs only [QS, QN, List.length_range, hw, hw1, e3, e3', e4, e4', c6, c7, leaf_some, isNormal, ifEv_bool, gate_bool, gateP_bool, gateQ_bool, pick_bool, plan_30_5, SN, evCutRow, Int.reduceToNat, id_eq, Int.reduceBEq, Int.reduceLE, Int.reduceLT, SS, TIS, MDS, wanted, numbered, plainC, plainS, evEq, eqK, evBox, evAlloc, evStore, evLoad, evFieldAddr, behind, takeVal, AV.cells, AV.isCell, ofCells, ofCell, Value.cells, Nat.reduceAdd, Nat.reduceEqDiff, Nat.reduceLT, Nat.reduceLeDiff, Nat.reduceMul, Nat.reduceSub, reduceIte]; done)
              | trace_state
      · intro pre z r' _ hs' _
        have hp5 : pre.length < N := by have := congrArg List.length hs'; simp at this; omega
        clear hs'
        have hg := hL pre.length hp5
        have hw1 : IntKind.i64.wrap (q.now + (pre.length : Nat) + 1) = q.now + ((pre.length + 1 : Nat) : Int) := by rw [IntWalk.i64_in _ (by omega)]; omega
        have c6 := c3 (atTime q (q.now + ((pre.length + 1 : Nat) : Int)))
        have c7 := c4 (q.now + ((pre.length + 1 : Nat) : Int))
        unfold sameAt at hg
        simp -implicitDefEqProofs only [Bool.and_eq_true, decide_eq_true_eq, beq_iff_eq] at hg
        obtain ⟨e3, e4, e5⟩ := hg
        rw [e5] at c6
        have e3' := eq_true e3
        have e4' := eq_true e4
        simp -implicitDefEqProofs only [enc_atTime] at c6
        generalize evalAt l s q x = b2 at c5 c6
        cases b2
        all_goals
          simp -implicitDefEqProofs only [QS, QN, QG, hw, hw1, e3', e4', c6, c7, goStep, plan_30_5, keep_30_5, leaf_some, isNormal, ifEv_bool, gate_bool, gateP_bool, gateQ_bool, pick_bool, SN, evCutRow, Int.reduceToNat, id_eq, Int.reduceBEq, Int.reduceLE, Int.reduceLT, firstRegion, gc, keptBoxes, keptRows, dedup, nodupB, idx, renameB, AV.boxes, AV.boxess, AV.rows, AV.rowss, AV.mapO, AV.mapOs, SS, TIS, MDS, wanted, numbered, plainC, plainS, evEq, eqK, evBox, evAlloc, evStore, evLoad, evFieldAddr, behind, takeVal, AV.cells, AV.isCell, ofCells, ofCell, Value.cells, Nat.reduceAdd, Nat.reduceEqDiff, Nat.reduceLT, Nat.reduceLeDiff, Nat.reduceMul, Nat.reduceSub, reduceIte]
          repeat' (split <;> (rename_i h; (try simp -implicitDefEqProofs only [Bool.not_eq_true', Bool.not_eq_false', decide_eq_true_eq, decide_eq_false_iff_not] at h); (try simp -implicitDefEqProofs only [QS, QN, QG, *, hw, hw1, e3', e4', c6, c7, goStep, plan_30_5, keep_30_5, leaf_some, isNormal, ifEv_bool, gate_bool, gateP_bool, gateQ_bool, pick_bool, SN, evCutRow, Int.reduceToNat, id_eq, Int.reduceBEq, Int.reduceLE, Int.reduceLT, firstRegion, gc, keptBoxes, keptRows, dedup, nodupB, idx, renameB, AV.boxes, AV.boxess, AV.rows, AV.rowss, AV.mapO, AV.mapOs, SS, TIS, MDS, wanted, numbered, plainC, plainS, evEq, eqK, evBox, evAlloc, evStore, evLoad, evFieldAddr, behind, takeVal, AV.cells, AV.isCell, ofCells, ofCell, Value.cells, Nat.reduceAdd, Nat.reduceEqDiff, Nat.reduceLT, Nat.reduceLeDiff, Nat.reduceMul, Nat.reduceSub, reduceIte])))
      · simp -implicitDefEqProofs only [firstRegion]
        rw [keep_30_5]
        have h0 : q.now + ((0 : Nat) : Int) = q.now := Int.add_zero _
        rw [h0]
        simp -implicitDefEqProofs only [QS, QN, QG, SN, evCutRow, Int.reduceToNat, id_eq, Int.reduceBEq, Int.reduceLE, Int.reduceLT, firstRegion, gc, keptBoxes, keptRows, dedup, nodupB, idx, renameB, AV.boxes, AV.boxess, AV.rows, AV.rowss, AV.mapO, AV.mapOs, SS, TIS, MDS, wanted, numbered, plainC, plainS, evEq, eqK, evBox, evAlloc, evStore, evLoad, evFieldAddr, behind, takeVal, AV.cells, AV.isCell, ofCells, ofCell, Value.cells, Nat.reduceAdd, Nat.reduceEqDiff, Nat.reduceLT, Nat.reduceLeDiff, Nat.reduceMul, Nat.reduceSub, reduceIte]
      · simp -implicitDefEqProofs only [Bool.and_self, if_true, hN0]
theorem r_impl_HoldsUntil {fl f2 f3 f4 : Bool} (k : Nat) (hk : 884940186000000 + 8 ≤ k) (l : List Includes) (hl : l.length ≤ 140737488355328) (s : List Fact) (hs : s.length ≤ 1099511627776) (x : Cond) (hx : x.w ≤ 1099511627776) (q : Request) (most : Int) :
    run E noExt k 32 [.sl fl (l.map (Includes.enc fl)), .sl f2 (s.map (Fact.enc f2)), x.enc f3, q.enc f4, .int .i64 most] [] = some (.int .i64 (holdsUntil l s x q most), []) := by
  have c1 := r_impl_IsRequest (fl := f4) (k - 1) (by omega) q
  have c2 := r_impl_InRange (k - 1) (by omega) most 0 60
  have c3 := r_impl_EvalCond (fl := fl) (f2 := f2) (f3 := f3) (f4 := f4) (k - 1) (by omega) l hl s hs x hx
  have c4 := r_impl_AtTime (fl := f4) (k - 1) (by omega) q
  have c5 := c3 q
  unfold holdsUntil
  obtain ⟨k, rfl⟩ : ∃ j, k = j + 1 := ⟨k - 1, by omega⟩
  rw [run_succ rfl rfl, body_eq (nt := 51) (fn := Go.Proofs.Tryz.f32) (by kernel_rfl) rfl rfl rfl rfl rfl rfl rfl rfl]
  simp -implicitDefEqProofs only [Nat.add_sub_cancel, enc_Cond, enc_atTime] at c1 c2 c3 c4 c5
  simp -implicitDefEqProofs only [enc_Request] at c1 c4 c5
  cases e1 : isRequest q with
  | false =>
    rw [e1] at c1
    simp -implicitDefEqProofs only [QS, QN, Go.Proofs.Tryz.f32, enc_Cond, enc_Request, c1, c2, ifEv_bool, gate_bool, gateP_bool, gateQ_bool, pick_bool, SN, evCutRow, Int.reduceToNat, id_eq, Int.reduceBEq, Int.reduceLE, Int.reduceLT, SS, TIS, MDS, wanted, numbered, plainC, plainS, evEq, eqK, evBox, evAlloc, evStore, evLoad, evFieldAddr, behind, takeVal, AV.cells, AV.isCell, ofCells, ofCell, Value.cells, Nat.reduceAdd, Nat.reduceEqDiff, Nat.reduceLT, Nat.reduceLeDiff, Nat.reduceMul, Nat.reduceSub, reduceIte]
  | true =>
    cases e2 : inR most 0 60 with
    | false =>
      rw [e1] at c1
      rw [e2] at c2
      simp -implicitDefEqProofs only [QS, QN, Go.Proofs.Tryz.f32, enc_Cond, enc_Request, c1, c2, ifEv_bool, gate_bool, gateP_bool, gateQ_bool, pick_bool, SN, evCutRow, Int.reduceToNat, id_eq, Int.reduceBEq, Int.reduceLE, Int.reduceLT, SS, TIS, MDS, wanted, numbered, plainC, plainS, evEq, eqK, evBox, evAlloc, evStore, evLoad, evFieldAddr, behind, takeVal, AV.cells, AV.isCell, ofCells, ofCell, Value.cells, Nat.reduceAdd, Nat.reduceEqDiff, Nat.reduceLT, Nat.reduceLeDiff, Nat.reduceMul, Nat.reduceSub, reduceIte]
    | true =>
      rw [e1] at c1
      rw [e2] at c2
      have hn := isRequest_now e1
      have hm : 0 ≤ most ∧ most ≤ 60 := by simpa [inR] using e2
      obtain ⟨hN, hE⟩ := lead_same (l := l) (s := s) (x := x) (q := q) (most := most) hm.2
      have hL : ∀ j, j < lead (sameAt l s x q most) 61 0 → sameAt l s x q most j = true := fun j hj => lead_lt _ 61 0 j (by omega) hj
      generalize hN0 : lead (sameAt l s x q most) 61 0 = N at hN hE hL
      have hw : IntKind.i64.wrap (q.now + most) = q.now + most := IntWalk.i64_in _ (by omega)
      obtain ⟨M, hM⟩ : ∃ M : Int, M = if (10000 : Int) < q.now + most then 10000 else q.now + most := ⟨_, rfl⟩
      have hMi : ∀ z : Int, decide (z < M) = (decide (z < q.now + most) && decide (z < 10000)) := by
        intro z
        rw [Bool.eq_iff_iff, Bool.and_eq_true, decide_eq_true_iff, decide_eq_true_iff, decide_eq_true_iff, hM]
        split <;> omega
      have hS : ∀ i, sameAt l s x q most i = (decide (q.now + (i : Nat) < M) && (evalAt l s (atTime q (q.now + ((i + 1 : Nat) : Int))) x == evalAt l s q x)) := by
        intro i
        unfold sameAt
        rw [hMi, Bool.and_assoc]
      simp -implicitDefEqProofs only [QS, QN, Go.Proofs.Tryz.f32, enc_Cond, enc_Request, c1, c2, c5, Bool.and_self, ifEv_bool, gate_bool, gateP_bool, gateQ_bool, pick_bool, SN, evCutRow, Int.reduceToNat, id_eq, Int.reduceBEq, Int.reduceLE, Int.reduceLT, SS, TIS, MDS, wanted, numbered, plainC, plainS, evEq, eqK, evBox, evAlloc, evStore, evLoad, evFieldAddr, behind, takeVal, AV.cells, AV.isCell, ofCells, ofCell, Value.cells, Nat.reduceAdd, Nat.reduceEqDiff, Nat.reduceLT, Nat.reduceLeDiff, Nat.reduceMul, Nat.reduceSub, reduceIte]
      rw [ev_loop]
      refine Eq.trans (loop_list (Q := fun (_ : Unit) z => thenEnd E.P [] _ 0 (thenEv E _ _ _ _ _ (outOf 0 z)) = some (.int .i64 (q.now + (N : Nat)), [])) (List.range N) goStep id
        (fun i _ => { sl := [(0, .sl fl (l.map (Includes.enc fl))), (1, .sl f2 (s.map (Fact.enc f2))), (4, .int .i64 most), (7, .ptr 0 0), (8, .ptr 1 0), (11, .int .i64 (q.now + (i : Nat))), (12, .bool (evalAt l s q x))],
                      bx := [(0, [.int .i64 x.op, .int .i64 x.a, .int .i64 x.b, .sl f3 (x.args.map (Cond.enc f3))]), (1, [.int .i64 q.person, .int .i64 q.device, .int .i64 q.program, .int .i64 q.action, .int .i64 q.object, .int .i64 q.now])], nx := 2, nt := 51 })
        (fun _ _ => True) () ?_ ?_ (by simp; omega) trivial ?_) ?_
      · intro _ _
        have hw1 : IntKind.i64.wrap (q.now + ((List.range N).length : Nat) + 1) = q.now + ((N + 1 : Nat) : Int) := by rw [List.length_range, IntWalk.i64_in _ (by omega)]; omega
        have c6 := c3 (atTime q (q.now + ((N + 1 : Nat) : Int)))
        have c7 := c4 (q.now + ((N + 1 : Nat) : Int))
        rw [hS] at hE
        simp -implicitDefEqProofs only [enc_atTime] at c6
        rw [List.length_range] at hw1
        generalize evalAt l s (atTime q (q.now + ((N + 1 : Nat) : Int))) x = b1 at c6 hE
        generalize evalAt l s q x = b2 at c5 hE
        cases e3 : decide (q.now + ((N : Nat) : Int) < M) with
        | false =>
          have e3' : (q.now + ((N : Nat) : Int) < M) = False := eq_false (of_decide_eq_false e3)
          simp -implicitDefEqProofs only [QS, QN, List.length_range, hw, hw1, ← hM, e3, e3', op_min, min_int, plan_32_5, leaf_some, isNormal, ifEv_bool, gate_bool, gateP_bool, gateQ_bool, pick_bool, SN, evCutRow, Int.reduceToNat, id_eq, Int.reduceBEq, Int.reduceLE, Int.reduceLT, SS, TIS, MDS, wanted, numbered, plainC, plainS, evEq, eqK, evBox, evAlloc, evStore, evLoad, evFieldAddr, behind, takeVal, AV.cells, AV.isCell, ofCells, ofCell, Value.cells, Nat.reduceAdd, Nat.reduceEqDiff, Nat.reduceLT, Nat.reduceLeDiff, Nat.reduceMul, Nat.reduceSub, reduceIte]
          repeat' (split <;> (rename_i h; (try simp -implicitDefEqProofs only [Bool.not_eq_true', Bool.not_eq_false', decide_eq_true_eq, decide_eq_false_iff_not] at h); (try simp -implicitDefEqProofs only [QS, QN, *, List.length_range, hw, hw1, ← hM, e3, e3', op_min, min_int, plan_32_5, leaf_some, isNormal, ifEv_bool, gate_bool, gateP_bool, gateQ_bool, pick_bool, SN, evCutRow, Int.reduceToNat, id_eq, Int.reduceBEq, Int.reduceLE, Int.reduceLT, SS, TIS, MDS, wanted, numbered, plainC, plainS, evEq, eqK, evBox, evAlloc, evStore, evLoad, evFieldAddr, behind, takeVal, AV.cells, AV.isCell, ofCells, ofCell, Value.cells, Nat.reduceAdd, Nat.reduceEqDiff, Nat.reduceLT, Nat.reduceLeDiff, Nat.reduceMul, Nat.reduceSub, reduceIte])))
        | true =>
          have e3' : (q.now + ((N : Nat) : Int) < M) = True := eq_true (of_decide_eq_true e3)
          simp -implicitDefEqProofs only [e3, Bool.true_and] at hE
          cases b1 <;> cases b2 <;> first
            | (exact absurd hE (by decide))
            | (simp -implicitDefEqProofs only [QS, QN, List.length_range, hw, hw1, ← hM, e3, e3', c6, c7, op_min, min_int, leaf_some, isNormal, ifEv_bool, gate_bool, gateP_bool, gateQ_bool, pick_bool, plan_32_5, SN, evCutRow, Int.reduceToNat, id_eq, Int.reduceBEq, Int.reduceLE, Int.reduceLT, SS, TIS, MDS, wanted, numbered, plainC, plainS, evEq, eqK, evBox, evAlloc, evStore, evLoad, evFieldAddr, behind, takeVal, AV.cells, AV.isCell, ofCells, ofCell, Value.cells, Nat.reduceAdd, Nat.reduceEqDiff, Nat.reduceLT, Nat.reduceLeDiff, Nat.reduceMul, Nat.reduceSub, reduceIte]; done)
            | trace_state
      · intro pre z r' _ hs' _
        have hp5 : pre.length < N := by have := congrArg List.length hs'; simp at this; omega
        clear hs'
        have hg := hL pre.length hp5
        have hw1 : IntKind.i64.wrap (q.now + (pre.length : Nat) + 1) = q.now + ((pre.length + 1 : Nat) : Int) := by rw [IntWalk.i64_in _ (by omega)]; omega
        have c6 := c3 (atTime q (q.now + ((pre.length + 1 : Nat) : Int)))
        have c7 := c4 (q.now + ((pre.length + 1 : Nat) : Int))
        rw [hS] at hg
        simp -implicitDefEqProofs only [Bool.and_eq_true, decide_eq_true_eq, beq_iff_eq] at hg
        obtain ⟨e3, e5⟩ := hg
        rw [e5] at c6
        have e3' := eq_true e3
        simp -implicitDefEqProofs only [enc_atTime] at c6
        generalize evalAt l s q x = b2 at c5 c6
        cases b2
        all_goals
          simp -implicitDefEqProofs only [QS, QN, QG, hw, hw1, ← hM, e3', c6, c7, goStep, op_min, min_int, plan_32_5, keep_32_5, leaf_some, isNormal, ifEv_bool, gate_bool, gateP_bool, gateQ_bool, pick_bool, SN, evCutRow, Int.reduceToNat, id_eq, Int.reduceBEq, Int.reduceLE, Int.reduceLT, firstRegion, gc, keptBoxes, keptRows, dedup, nodupB, idx, renameB, AV.boxes, AV.boxess, AV.rows, AV.rowss, AV.mapO, AV.mapOs, SS, TIS, MDS, wanted, numbered, plainC, plainS, evEq, eqK, evBox, evAlloc, evStore, evLoad, evFieldAddr, behind, takeVal, AV.cells, AV.isCell, ofCells, ofCell, Value.cells, Nat.reduceAdd, Nat.reduceEqDiff, Nat.reduceLT, Nat.reduceLeDiff, Nat.reduceMul, Nat.reduceSub, reduceIte]
          repeat' (split <;> (rename_i h; (try simp -implicitDefEqProofs only [Bool.not_eq_true', Bool.not_eq_false', decide_eq_true_eq, decide_eq_false_iff_not] at h); (try simp -implicitDefEqProofs only [QS, QN, QG, *, hw, hw1, ← hM, e3', c6, c7, goStep, op_min, min_int, plan_32_5, keep_32_5, leaf_some, isNormal, ifEv_bool, gate_bool, gateP_bool, gateQ_bool, pick_bool, SN, evCutRow, Int.reduceToNat, id_eq, Int.reduceBEq, Int.reduceLE, Int.reduceLT, firstRegion, gc, keptBoxes, keptRows, dedup, nodupB, idx, renameB, AV.boxes, AV.boxess, AV.rows, AV.rowss, AV.mapO, AV.mapOs, SS, TIS, MDS, wanted, numbered, plainC, plainS, evEq, eqK, evBox, evAlloc, evStore, evLoad, evFieldAddr, behind, takeVal, AV.cells, AV.isCell, ofCells, ofCell, Value.cells, Nat.reduceAdd, Nat.reduceEqDiff, Nat.reduceLT, Nat.reduceLeDiff, Nat.reduceMul, Nat.reduceSub, reduceIte])))
      · simp -implicitDefEqProofs only [firstRegion]
        rw [keep_32_5]
        have h0 : q.now + ((0 : Nat) : Int) = q.now := Int.add_zero _
        rw [h0]
        simp -implicitDefEqProofs only [QS, QN, QG, SN, evCutRow, Int.reduceToNat, id_eq, Int.reduceBEq, Int.reduceLE, Int.reduceLT, firstRegion, gc, keptBoxes, keptRows, dedup, nodupB, idx, renameB, AV.boxes, AV.boxess, AV.rows, AV.rowss, AV.mapO, AV.mapOs, SS, TIS, MDS, wanted, numbered, plainC, plainS, evEq, eqK, evBox, evAlloc, evStore, evLoad, evFieldAddr, behind, takeVal, AV.cells, AV.isCell, ofCells, ofCell, Value.cells, Nat.reduceAdd, Nat.reduceEqDiff, Nat.reduceLT, Nat.reduceLeDiff, Nat.reduceMul, Nat.reduceSub, reduceIte]
      · simp -implicitDefEqProofs only [Bool.and_self, if_true, hN0]
end Go.Proofs.YtfljmpjckeopgaaGreat.Flat
