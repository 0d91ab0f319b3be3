/-
FromTable, and marks in a diagram.
-/
import Derived.Test.YtokjpncehggojaaGreatEqYB
import Derived.Test.YtokjpncehggojaaGreatEqFA
import Derived.Test.YtokjpncehggojaaGreatEqGA
set_option linter.unusedVariables false
set_option linter.unusedSimpArgs false
set_option maxRecDepth 10000
namespace Go.Proofs.YtokjpncehggojaaGreat.Flat
noncomputable def fromT (atoms : Int) (table : List Bool) : Diagram := ⟨atoms, (bld table atoms.toNat 0 0 []).2, (bld table atoms.toNat 0 0 []).1⟩
noncomputable def fromOk (atoms : Int) (table : List Bool) : Bool := inR atoms 0 6 && decide (table.length = 2 ^ atoms.toNat)
noncomputable def fromTable (atoms : Int) (table : List Bool) : Diagram := if fromOk atoms table = true then fromT atoms table else ⟨0, [], 0⟩
noncomputable def Diagram.encN (d : Diagram) : AV := .agg [.int .i64 d.atoms, encR 0 d.nodes, .int .i64 d.root]
theorem r_impl_FromTable {fl : Bool} (k : Nat) (hk : 281474976710656 + 30 ≤ k) (atoms : Int) (table : List Bool) (hl : table.length ≤ 1099511627776) :
    run E noExt k 73 [.int .i64 atoms, .sl fl (table.map AV.bool)] [] = some (.tup [(fromTable atoms table).encN, .bool (fromOk atoms table)], []) := by
  have c1 := r_impl_InRange (k - 1) (by omega) atoms 0 6
  have c3 := fun n hn ht => r_impl_built (fl := fl) table n hn ht 0 n 0 (by omega) (k - 1) (by omega) 0 (by simp) [] (by have : 2 ^ n ≤ 2 ^ 6 := Nat.pow_le_pow_right (by decide) hn; simp -implicitDefEqProofs only [List.length_nil]; omega)
  unfold fromTable fromOk
  obtain ⟨k, rfl⟩ : ∃ j, k = j + 1 := ⟨k - 1, by omega⟩
  rw [run_succ rfl rfl, body_eq (nt := 24) (fn := Go.Proofs.Tryz.f73) (by kernel_rfl) rfl rfl rfl rfl rfl rfl rfl rfl]
  simp -implicitDefEqProofs only [Nat.add_sub_cancel] at c1 c3
  cases hd : inR atoms 0 6 with
  | false =>
    rw [hd] at c1
    simp -implicitDefEqProofs only [W3, ↓D3, ↓DA, ↓DP, ↓DC, Go.Proofs.Tryz.f73, c1, Diagram.encN, encR_nil, ifEv_bool, gate_bool, if_false, SH, Int.reduceToNat, id_eq, Int.reduceBEq, Int.reduceLE, Int.reduceLT, Nat.reduceAdd, Nat.reduceEqDiff, Nat.reduceLT, Nat.reduceLeDiff, Nat.reduceMul, Nat.reduceSub, reduceIte]
  | true =>
    rw [hd] at c1
    have hr := hd
    simp -implicitDefEqProofs only [inR, Bool.and_eq_true, decide_eq_true_eq] at hr
    obtain ⟨n, hn⟩ : ∃ n : Nat, atoms = (n : Int) := ⟨atoms.toNat, by omega⟩
    subst hn
    have hn6 : n ≤ 6 := by omega
    have hsl : ∀ t, evBin2 E.P .shl t (.int .i64 1) (.int .i64 ((n : Nat) : Int)) = some (.int .i64 ((2 ^ n : Nat) : Int)) := fun t => by
      have h1 : (((n : Nat) : Int) < 0) = False := eq_false (by omega)
      simp -implicitDefEqProofs only [evBin2, evBin, evShift, h1, if_false, shl_small n (by omega)]
    have c5 := c3 n hn6
    clear c3
    simp -implicitDefEqProofs only [Int.toNat_natCast]
    rcases Classical.em (table.length = 2 ^ n) with h | h
    · have hd2 : (((table.length : Nat) : Int) == ((2 ^ n : Nat) : Int)) = true := by simp [h]
      have c6 := c5 h
      have hz0 : ((0 : Nat) : Int) = 0 := rfl
      simp -implicitDefEqProofs only [hz0] at c6
      have g1 := fun nid dst st => give_build (b := 128) (nid := nid) (dst := dst) (st := st) (id := 0) rfl rfl rfl rfl rfl rfl rfl rfl rfl (hΦ := c6)
      have hdt : decide (table.length = 2 ^ n) = true := decide_eq_true h
      unfold fromT
      simp -implicitDefEqProofs only [Int.toNat_natCast]
      generalize bld table n 0 0 [] = p at *
      simp -implicitDefEqProofs only [hdt, Bool.true_and, if_true]
      simp -implicitDefEqProofs only [W3, ↓D3, ↓DA, Go.Proofs.Tryz.f73, c1, hsl, hd2, bne, encR_nil, g1, Diagram.encN, ifEv_bool, gate_bool, if_false, if_true, back_rowsN, rows_encR, boxes_encR, ↓isCell_encR, len_rowsN, dedup_rowsN, nodup_rowsN, all_rowsN, any_encR, mapO_encR, ref_encR, scal_encR, small_rowsN, lend_encR4, imp_encR, rowsN_nil, look_nil, finJ_1, finJ_2, finJ_3, finJ_4, finJ_int, finJ_bool, finJ_str, finJ_nils, finJ_agg, finJ_own, finJ_sl, finJ_tup, look_cons, reduceCtorEq, evCall_mutOwn, evCall_mutAgg, evGive, giveRows, ioBoxes, mutArgs, roArgs, handArg, mutSlots, isPtrB, pairs, pairss, back_nil, back_cons, backO, backE, setBoxes, importB, mode_mut, mode_give, mode_io, mode_ro, List.zip_cons_cons, List.zip_nil_left, List.zip_nil_right, ite_self, ite_true, ite_false, finish_give, finish_mut1, finish_io0, finish_io2, finish_io3, finish_ioc, finI, finC, finW_ptr, SH, noref, isRef, isPtr, noPtr, isBad, AV.isUndef, Int.reduceToNat, id_eq, Int.reduceBEq, Int.reduceLE, Int.reduceLT, AV.cells, AV.isCell, Value.cells, Nat.reduceAdd, Nat.reduceEqDiff, Nat.reduceLT, Nat.reduceLeDiff, Nat.reduceMul, Nat.reduceSub, reduceIte]
    · have hd2 : (((table.length : Nat) : Int) == ((2 ^ n : Nat) : Int)) = false := by rw [beq_eq_false_iff_ne]; intro e; exact h (by omega)
      have hdt : decide (table.length = 2 ^ n) = false := decide_eq_false h
      simp -implicitDefEqProofs only [hdt, Bool.true_and]
      simp -implicitDefEqProofs only [W3, ↓D3, ↓DA, ↓DP, ↓DC, Go.Proofs.Tryz.f73, c1, hsl, hd2, bne, Diagram.encN, encR_nil, ifEv_bool, gate_bool, if_false, if_true, SH, Int.reduceToNat, id_eq, Int.reduceBEq, Int.reduceLE, Int.reduceLT, Nat.reduceAdd, Nat.reduceEqDiff, Nat.reduceLT, Nat.reduceLeDiff, Nat.reduceMul, Nat.reduceSub, reduceIte]
noncomputable def polB (p : Policy) (a o : Int) (s : List Cond) (v : List Bool) : Bool := polBy (ruleBy a o s v) p.rules
noncomputable def compTab (p : Policy) (a o : Int) (s : List Cond) (i : Nat) : List Bool := (List.range i).map fun j => polB p a o s (valsOf s.length j)
noncomputable def compOk (p : Policy) (a o : Int) : Bool := isPolicy p && decide ((atomsOf p a o).length ≤ 6)
noncomputable def compD (p : Policy) (a o : Int) : Diagram := fromTable ((atomsOf p a o).length : Nat) (compTab p a o (atomsOf p a o) (2 ^ (atomsOf p a o).length))
noncomputable def compAV (p : Policy) (a o : Int) : AV :=
  if compOk p a o = true then .agg [.own 0 false 40 4 ((atomsOf p a o).map (Cond.enc true)), .int .i64 (compD p a o).atoms, encR 1 (compD p a o).nodes, .int .i64 (compD p a o).root, .int .i64 p.version]
  else .agg [.nils, .int .i64 0, .nils, .int .i64 0, .int .i64 0]
theorem compTab_succ (p : Policy) (a o : Int) (s : List Cond) (i : Nat) : compTab p a o s (i + 1) = compTab p a o s i ++ [polB p a o s (valsOf s.length i)] := by simp [compTab, List.range_succ]
theorem compTab_len (p : Policy) (a o : Int) (s : List Cond) (i : Nat) : (compTab p a o s i).length = i := by simp [compTab]
set_option maxHeartbeats 4000000 in
theorem r_impl_CompileFor (k : Nat) (hk : 884940186000000 + 60 ≤ k) (p : Policy) (hp0 : p.w ≤ 268435456) (a o : Int) :
    run E noExt k 41 [p.enc true, .int .i64 a, .int .i64 o] [] = some (.tup [compAV p a o, .bool (compOk p a o)], []) := by
  have hp : p.w ≤ 1099511627776 := by omega
  have hal := atomsOf_len p a o
  have hav := atomsOf_leaves p a o
  have hsc := scals_leaves hav
  have c1 := r_impl_IsPolicy (fl := true) (k - 1) (by omega) p hp
  have c2 := r_impl_AtomsFor (fl := true) (k - 1) p (by omega) hp a o
  have c3 := r_impl_valuesOf (k - 1) (by omega) (atomsOf p a o).length
  have c4 := fun v => r_impl_PolicyBy (fl := true) (f2 := true) (f3 := true) (k - 1) (by omega) p a o (atomsOf p a o) v hp (by rw [wl_leaves hav]; omega)
  have c5 := fun t ht => r_impl_FromTable (fl := true) (k - 1) (by omega) ((atomsOf p a o).length : Nat) t ht
  have e4 : ∀ v, polBy (ruleBy a o (atomsOf p a o) v) p.rules = polB p a o (atomsOf p a o) v := fun _ => rfl
  simp -implicitDefEqProofs only [e4] at c4
  have hCok : compOk p a o = (isPolicy p && decide ((atomsOf p a o).length ≤ 6)) := rfl
  have hCD : compD p a o = fromTable ((atomsOf p a o).length : Nat) (compTab p a o (atomsOf p a o) (2 ^ (atomsOf p a o).length)) := rfl
  have hT := compTab_succ p a o (atomsOf p a o)
  have hTl := compTab_len p a o (atomsOf p a o)
  have hT0 : compTab p a o (atomsOf p a o) 0 = [] := rfl
  unfold compAV
  rw [hCok, hCD]
  clear hCok hCD e4
  obtain ⟨k, rfl⟩ : ∃ j, k = j + 1 := ⟨k - 1, by omega⟩
  rw [run_succ rfl rfl, body_eq (nt := 57) (fn := Go.Proofs.Tryz.f41) (by kernel_rfl) rfl rfl rfl rfl rfl rfl rfl rfl]
  simp -implicitDefEqProofs only [Nat.add_sub_cancel, enc_Policy] at c1 c2 c3 c4 c5
  cases hP : isPolicy p with
  | false =>
    rw [hP] at c1
    simp -implicitDefEqProofs only [W3, ↓D3, ↓DA, ↓DP, ↓DC, Go.Proofs.Tryz.f41, enc_Policy, c1, ifEv_bool, if_false, if_true, SH, Int.reduceToNat, id_eq, Int.reduceBEq, Int.reduceLE, Int.reduceLT, Nat.reduceAdd, Nat.reduceEqDiff, Nat.reduceLT, Nat.reduceLeDiff, Nat.reduceMul, Nat.reduceSub, reduceIte]
  | true =>
    rw [hP] at c1
    simp -implicitDefEqProofs only [Bool.true_and]
    generalize atomsOf p a o = at_ at *
    by_cases hn : at_.length ≤ 6
    · have hgt : decide (((at_.length : Nat) : Int) > 6) = false := decide_eq_false (by omega)
      have hle : decide (at_.length ≤ 6) = true := decide_eq_true hn
      have hsl : ∀ t, evBin2 E.P .shl t (.int .i64 1) (.int .i64 ((at_.length : Nat) : Int)) = some (.int .i64 ((2 ^ at_.length : Nat) : Int)) := fun t => by
        have h1 : (((at_.length : Nat) : Int) < 0) = False := eq_false (by omega)
        simp -implicitDefEqProofs only [evBin2, evBin, evShift, h1, if_false, shl_small at_.length (by omega)]
      have hN : 2 ^ at_.length ≤ 64 := Nat.le_trans (Nat.pow_le_pow_right (by decide) hn) (by decide)
      have c3 := fun i hi => c3 i hn hi
      have c6 := c5 (compTab p a o at_ (2 ^ at_.length)) (by rw [hTl]; omega)
      clear c5
      generalize hNN : (2 : Nat) ^ at_.length = N at *
      have hok : fromOk ((at_.length : Nat) : Int) (compTab p a o at_ N) = true := by
        unfold fromOk
        rw [hTl, Int.toNat_natCast, hNN]
        simp [inR]
        omega
      rw [hok] at c6
      simp -implicitDefEqProofs only [hle, if_true]
      generalize fromTable ((at_.length : Nat) : Int) (compTab p a o at_ N) = d at *
      simp -implicitDefEqProofs only [W4, ↓D4, ↓DA, ↓DP, ↓DC, Go.Proofs.Tryz.f41, enc_Policy, c1, c2, hsc, hgt, hsl, ifEv_bool, if_false, if_true, SH, dedup, nodupB, idx, AV.rows, AV.rowss, AV.mapO, AV.mapOs, Int.reduceToNat, id_eq, Int.reduceBEq, Int.reduceLE, Int.reduceLT, Nat.reduceAdd, Nat.reduceEqDiff, Nat.reduceLT, Nat.reduceLeDiff, Nat.reduceMul, Nat.reduceSub, reduceIte]
      rw [ev_loop]
      refine Eq.trans (loop_list (Q := fun (_ : Unit) z => thenEnd E.P [] _ 0 (thenEv E _ _ _ _ _ (outOf 0 z)) = some (.tup [.agg [.own 0 false 40 4 (at_.map (Cond.enc true)), .int .i64 d.atoms, encR 1 d.nodes, .int .i64 d.root, .int .i64 p.version], .bool true], [])) (List.range N) (fun _ _ _ => .inr ()) id
        (fun i _ => { sl := [(1, .int .i64 a), (2, .int .i64 o), (3, .ptr 0 0), (6, .ptr 1 0), (8, .own 0 false 40 4 (at_.map (Cond.enc true))), (9, .own 1 false 4 1 ((compTab p a o at_ i).map AV.bool)), (28, .int .i64 (N : Nat)), (29, .int .i64 (i : Nat))], bx := [(0, [.int .i64 p.version, .sl true (p.rules.map (Rule.enc true))]), (1, [.nils, .int .i64 0, .nils, .int .i64 0, .int .i64 0])], nx := 4, nt := 57 })
        (fun _ _ => True) () ?_ ?_ (by simp; omega) trivial ?_) ?_
      · intro _ _
        rcases Classical.em (d.nodes = []) with h | h
        · have e0 : d.encN = .agg [.int .i64 d.atoms, .nils, .int .i64 d.root] := by unfold Diagram.encN; rw [h, encR_nil]
          have e1 : encR 1 d.nodes = .nils := by rw [h, encR_nil]
          rw [e0] at c6
          simp -implicitDefEqProofs only [W3, ↓D3, ↓DA, ↓DP, ↓DC, QX, List.length_range, c6, e1, hsc, scals_bools2, rowss_bools, boxess_bools, mapOs_bools, SH, leaf_some, isNormal, Int.reduceToNat, id_eq, Int.reduceBEq, Int.reduceLE, Int.reduceLT, Nat.reduceAdd, Nat.reduceEqDiff, Nat.reduceLT, Nat.reduceLeDiff, Nat.reduceMul, Nat.reduceSub, reduceIte]
          repeat' (split <;> (rename_i h; (try simp -implicitDefEqProofs only [Bool.not_eq_true', Bool.not_eq_false', decide_eq_true_eq, decide_eq_false_iff_not] at h); (try simp -implicitDefEqProofs only [W3, ↓D3, ↓DA, ↓DP, ↓DC, QX, *, List.length_range, c6, e1, hsc, scals_bools2, rowss_bools, boxess_bools, mapOs_bools, SH, leaf_some, isNormal, Int.reduceToNat, id_eq, Int.reduceBEq, Int.reduceLE, Int.reduceLT, Nat.reduceAdd, Nat.reduceEqDiff, Nat.reduceLT, Nat.reduceLeDiff, Nat.reduceMul, Nat.reduceSub, reduceIte])))
        · have e0 : d.encN = .agg [.int .i64 d.atoms, .own 0 false 134 3 (d.nodes.map (Choice.enc true)), .int .i64 d.root] := by unfold Diagram.encN; rw [encR_ne h]
          have e1 := encR_ne (id := 1) h
          rw [e0] at c6
          simp -implicitDefEqProofs only [W3, ↓D3, ↓DA, ↓DP, ↓DC, QX, List.length_range, c6, e1, hsc, tscals_Choice, scals_bools2, rowss_bools, boxess_bools, mapOs_bools, SH, leaf_some, isNormal, Int.reduceToNat, id_eq, Int.reduceBEq, Int.reduceLE, Int.reduceLT, Nat.reduceAdd, Nat.reduceEqDiff, Nat.reduceLT, Nat.reduceLeDiff, Nat.reduceMul, Nat.reduceSub, reduceIte]
          repeat' (split <;> (rename_i h; (try simp -implicitDefEqProofs only [Bool.not_eq_true', Bool.not_eq_false', decide_eq_true_eq, decide_eq_false_iff_not] at h); (try simp -implicitDefEqProofs only [W3, ↓D3, ↓DA, ↓DP, ↓DC, QX, *, List.length_range, c6, e1, hsc, tscals_Choice, scals_bools2, rowss_bools, boxess_bools, mapOs_bools, SH, leaf_some, isNormal, Int.reduceToNat, id_eq, Int.reduceBEq, Int.reduceLE, Int.reduceLT, Nat.reduceAdd, Nat.reduceEqDiff, Nat.reduceLT, Nat.reduceLeDiff, Nat.reduceMul, Nat.reduceSub, reduceIte])))
      · intro pre x r' _ hs' _
        obtain ⟨hxe, hpl0⟩ := range_at hs'
        have h5 : ((pre.length : Int) < (N : Int)) = True := eq_true (by omega)
        have hw1 : IntKind.i64.wrap ((pre.length : Int) + 1) = ((pre.length + 1 : Nat) : Int) := by rw [IntWalk.i64_in _ (by omega)]; omega
        clear hs'
        subst hxe
        have c7 := c3 pre.length (by omega)
        have c8 := c4 (valsOf at_.length pre.length)
        have hv := hT pre.length
        have hl := hTl pre.length
        have hm1 : (compTab p a o at_ pre.length).length + 1 ≤ 140737488355328 := by omega
        have hm2 : (compTab p a o at_ pre.length).length + 1 ≤ 9223372036854775807 := by omega
        have hm9 : (compTab p a o at_ pre.length).length ≤ 9223372036854775806 := by omega
        have hm8 : (compTab p a o at_ pre.length).length ≤ 140737488355327 := by omega
        generalize polB p a o at_ (valsOf at_.length pre.length) = v at c8 hv
        have hpl : plains [AV.bool v] = true := rfl
        simp -implicitDefEqProofs only [W3, ↓D3, ↓DA, ↓DP, ↓DC, QX, h5, hw1, c7, c8, hv, hm1, hm2, hm8, hm9, hpl, hsc, Nat.mul_one, List.map_append, scals_bools2, plains_bools2, rowss_bools, boxess_bools, mapOs_bools, plan_41_9, SH, keep_41_7, leaf_some, isNormal, Int.reduceToNat, id_eq, Int.reduceBEq, Int.reduceLE, Int.reduceLT, Nat.reduceAdd, Nat.reduceEqDiff, Nat.reduceLT, Nat.reduceLeDiff, Nat.reduceMul, Nat.reduceSub, reduceIte]
        repeat' (split <;> (rename_i h; (try simp -implicitDefEqProofs only [Bool.not_eq_true', Bool.not_eq_false', decide_eq_true_eq, decide_eq_false_iff_not] at h); (try simp -implicitDefEqProofs only [W3, ↓D3, ↓DA, ↓DP, ↓DC, QX, *, h5, hw1, c7, c8, hv, hm1, hm2, hm8, hm9, hpl, hsc, Nat.mul_one, List.map_append, scals_bools2, plains_bools2, rowss_bools, boxess_bools, mapOs_bools, plan_41_9, SH, keep_41_7, leaf_some, isNormal, Int.reduceToNat, id_eq, Int.reduceBEq, Int.reduceLE, Int.reduceLT, Nat.reduceAdd, Nat.reduceEqDiff, Nat.reduceLT, Nat.reduceLeDiff, Nat.reduceMul, Nat.reduceSub, reduceIte])))
      · simp -implicitDefEqProofs only [firstRegion]
        rw [keep_41_7]
        simp -implicitDefEqProofs only [W3, ↓D3, ↓DA, ↓DP, ↓DC, hT0, Int.reduceToNat, id_eq, Int.reduceBEq, Int.reduceLE, Int.reduceLT, SH, Nat.reduceAdd, Nat.reduceEqDiff, Nat.reduceLT, Nat.reduceLeDiff, Nat.reduceMul, Nat.reduceSub, reduceIte]
      · rfl
    · have hgt : decide (((at_.length : Nat) : Int) > 6) = true := decide_eq_true (by omega)
      have hle : decide (at_.length ≤ 6) = false := decide_eq_false (by omega)
      simp -implicitDefEqProofs only [W3, ↓D3, ↓DA, ↓DP, ↓DC, Go.Proofs.Tryz.f41, enc_Policy, c1, c2, hsc, hgt, hle, ifEv_bool, if_false, if_true, SH, Int.reduceToNat, id_eq, Int.reduceBEq, Int.reduceLE, Int.reduceLT, Nat.reduceAdd, Nat.reduceEqDiff, Nat.reduceLT, Nat.reduceLeDiff, Nat.reduceMul, Nat.reduceSub, reduceIte]
theorem compFor_noI {p : Policy} {a o : Int} (h : compOk p a o = false) : compAV p a o = .agg [.nils, .int .i64 0, .nils, .int .i64 0, .int .i64 0] := by
  unfold compAV
  rw [h]
  rfl
theorem compFor_yesI {p : Policy} {a o : Int} (h : compOk p a o = true) : compAV p a o = .agg [.own 0 false 40 4 ((atomsOf p a o).map (Cond.enc true)), .int .i64 (compD p a o).atoms, encR 1 (compD p a o).nodes, .int .i64 (compD p a o).root, .int .i64 p.version] := by
  unfold compAV
  rw [h]
  rfl
noncomputable def addC (out : List Cond) (c : Cond) : List Cond := if (out.any fun own => decide (own = c)) = true then out else out ++ [c]
def isLf (x : Cond) : Bool := inR x.op 2 6 && ((x.args.length : Int) == 0)
mutual
noncomputable def lv : Cond → List Cond
  | ⟨o, a, b, s⟩ => (if isLf ⟨o, a, b, s⟩ = true then [⟨o, a, b, s⟩] else []) ++ lvs s
noncomputable def lvs : List Cond → List Cond
  | [] => []
  | c :: r => lv c ++ lvs r
end
theorem lv_eq (x : Cond) : lv x = (if isLf x = true then [x] else []) ++ lvs x.args := by
  cases x
  simp -implicitDefEqProofs only [lv]
theorem addLeaf_eq (x : Cond) (out : List Cond) : addLeaf x out = (if isLf x = true then [x] else []).foldl addC out := by
  unfold addLeaf isLf
  cases h : (inR x.op 2 6 && ((x.args.length : Int) == 0))
  · simp
  · simp -implicitDefEqProofs only [Bool.true_and, if_true, List.foldl_cons, List.foldl_nil, addC]
    cases out.any fun own => decide (own = x) <;> simp
theorem gather_foldl (x : Cond) : ∀ out, gather x out = (lv x).foldl addC out := by
  induction x using Cond.induct with
  | h x ih =>
    intro out
    have h : ∀ (s : List Cond), (∀ d ∈ s, d ∈ x.args) → ∀ out, gathers s out = (lvs s).foldl addC out := by
      intro s
      induction s with
      | nil => intro _ out; simp [gathers, lvs]
      | cons c r ihr =>
        intro hs out
        simp -implicitDefEqProofs only [gathers, lvs, List.foldl_append]
        rw [ih c (hs c (by simp)), ihr (fun d hd => hs d (List.mem_cons_of_mem _ hd))]
    rw [gather_eq, lv_eq, List.foldl_append, h x.args (fun d hd => hd), addLeaf_eq]
noncomputable def lvsFor (a o : Int) : List Rule → List Cond
  | [] => []
  | r :: rs => (if isFor r a o = true then lv r.cond else []) ++ lvsFor a o rs
theorem atomsL_foldl (a o : Int) : ∀ (s : List Rule) (out : List Cond), atomsL a o s out = (lvsFor a o s).foldl addC out
  | [], out => rfl
  | c :: r, out => by
    simp -implicitDefEqProofs only [atomsL, lvsFor, List.foldl_append]
    rw [atomsL_foldl a o r]
    cases isFor c a o
    · simp
    · simp -implicitDefEqProofs only [if_true]; rw [gather_foldl]
theorem addC_mem {out : List Cond} {c d : Cond} (h : d ∈ out) : d ∈ addC out c := by
  unfold addC
  split
  · exact h
  · exact List.mem_append_left _ h
theorem foldl_mem (l : List Cond) : ∀ (out : List Cond) (d : Cond), d ∈ out → d ∈ l.foldl addC out := by
  induction l with
  | nil => intro out d h; exact h
  | cons c r ih => intro out d h; exact ih _ _ (addC_mem h)
theorem mem_foldl (l : List Cond) : ∀ (out : List Cond) (d : Cond), d ∈ l → d ∈ l.foldl addC out := by
  induction l with
  | nil => intro out d h; simp at h
  | cons c r ih =>
    intro out d h
    rcases List.mem_cons.1 h with rfl | h
    · refine foldl_mem r _ _ ?_
      unfold addC
      split
      · rename_i h2
        obtain ⟨y, hy, he⟩ := List.any_eq_true.1 h2
        rw [decide_eq_true_eq] at he
        exact he ▸ hy
      · simp
    · exact ih _ _ h
def Lf (l : List Cond) : Prop := ∀ c ∈ l, isLf c = true
theorem lv_lf (x : Cond) : Lf (lv x) := by
  induction x using Cond.induct with
  | h x ih =>
    have h : ∀ (s : List Cond), (∀ d ∈ s, d ∈ x.args) → Lf (lvs s) := by
      intro s
      induction s with
      | nil => intro _ c hc; simp [lvs] at hc
      | cons c r ihr =>
        intro hs d hd
        simp -implicitDefEqProofs only [lvs, List.mem_append] at hd
        rcases hd with hd | hd
        · exact ih c (hs c (by simp)) d hd
        · exact ihr (fun e he => hs e (List.mem_cons_of_mem _ he)) d hd
    intro d hd
    rw [lv_eq, List.mem_append] at hd
    rcases hd with hd | hd
    · split at hd
      · rename_i hx; rw [List.mem_singleton] at hd; exact hd ▸ hx
      · simp at hd
    · exact h x.args (fun e he => he) d hd
noncomputable def hasRole (l : List Includes) (s : List Fact) (person role now age : Int) : Bool := (rolesOf l s person now age).any fun c => c == role
theorem rolesOf_len (l : List Includes) (s : List Fact) (person now age : Int) : (rolesOf l s person now age).length ≤ 6 := under_len _ 6
theorem any_swap (s : List Int) (x : Int) : (s.any fun y => decide (x = y)) = s.any fun c => c == x := by
  congr 1
  funext y
  rw [Bool.eq_iff_iff, decide_eq_true_iff, beq_iff_eq]
  exact eq_comm
theorem r_spec_HasRole {fl f2 : Bool} (k : Nat) (hk : 281474976710656 + 9 ≤ k) (l : List Includes) (hl : l.length ≤ 140737488355328) (s : List Fact) (hs : s.length ≤ 140737488355328) (person role now age : Int) :
    run E noExt k 106 [.sl fl (l.map (Includes.enc fl)), .sl f2 (s.map (Fact.enc f2)), .int .i64 person, .int .i64 role, .int .i64 now, .int .i64 age] [] = some (.bool (hasRole l s person role now age), []) := by
  have c1 := r_spec_RolesOf (fl := fl) (f2 := f2) (k - 1) (by omega) l hl s hs person now age
  have c2 := r_spec_l13Has (fl := true) (k - 1) (by omega) (rolesOf l s person now age) (by have := rolesOf_len l s person now age; omega) role
  obtain ⟨k, rfl⟩ : ∃ j, k = j + 1 := ⟨k - 1, by omega⟩
  rw [run_succ rfl rfl, body_eq (nt := 21) (fn := Go.Proofs.Tryz.f106) (by kernel_rfl) rfl rfl rfl rfl rfl rfl rfl rfl]
  simp -implicitDefEqProofs only [Nat.add_sub_cancel] at c1 c2
  simp -implicitDefEqProofs only [W3, ↓D3, ↓DA, ↓DP, ↓DC, Go.Proofs.Tryz.f106, c1, c2, scals_ints, plains_ints, ifEv_bool, Int.reduceToNat, id_eq, Int.reduceBEq, Int.reduceLE, Int.reduceLT, SH, Nat.reduceAdd, Nat.reduceEqDiff, Nat.reduceLT, Nat.reduceLeDiff, Nat.reduceMul, Nat.reduceSub, reduceIte]
  rfl
theorem r_impl_HasRole {fl f2 : Bool} (k : Nat) (hk : 281474976710656 + 9 ≤ k) (l : List Includes) (hl : l.length ≤ 140737488355328) (s : List Fact) (hs : s.length ≤ 1099511627776) (person role now age : Int) :
    run E noExt k 84 [.sl fl (l.map (Includes.enc fl)), .sl f2 (s.map (Fact.enc f2)), .int .i64 person, .int .i64 role, .int .i64 now, .int .i64 age] [] = some (.bool (hasRole l s person role now age), []) := by
  have c1 := r_impl_RolesOf (fl := fl) (f2 := f2) (k - 1) (by omega) l hl s hs person now age
  have c2 := r_slices_Contains_Int (fl := true) (gl := true) (k - 1) (by omega) (rolesOf l s person now age) (by have := rolesOf_len l s person now age; omega) role
  rw [any_swap] at c2
  obtain ⟨k, rfl⟩ : ∃ j, k = j + 1 := ⟨k - 1, by omega⟩
  rw [run_succ rfl rfl, body_eq (nt := 21) (fn := Go.Proofs.Tryz.f84) (by kernel_rfl) rfl rfl rfl rfl rfl rfl rfl rfl]
  simp -implicitDefEqProofs only [Nat.add_sub_cancel] at c1 c2
  simp -implicitDefEqProofs only [W3, ↓D3, ↓DA, ↓DP, ↓DC, Go.Proofs.Tryz.f84, c1, c2, scals_ints, plains_ints, ifEv_bool, Int.reduceToNat, id_eq, Int.reduceBEq, Int.reduceLE, Int.reduceLT, SH, Nat.reduceAdd, Nat.reduceEqDiff, Nat.reduceLT, Nat.reduceLeDiff, Nat.reduceMul, Nat.reduceSub, reduceIte]
  rfl
noncomputable def leafAt (l : List Includes) (s : List Fact) (q : Request) (x : Cond) : Bool :=
  if (x.op == 1) = true then true else if (x.op == 2) = true then hasRole l s q.person x.a q.now x.b else
  if (x.op == 3) = true then decide (0 ≤ findFact s 2 q.person q.device q.now x.b) else
  if (x.op == 4) = true then decide (x.a ≤ bestValue s 3 q.device q.now x.b) else
  if (x.op == 5) = true then decide (x.a ≤ bestValue s 4 q.program q.now x.b) else
  if (x.op == 6) = true then decide (q.now ≤ x.a) else false
theorem indexBy_none {α : Type} (p : α → Bool) : ∀ (s : List α) (i : Nat), indexBy p i s = -1 ∨ 0 ≤ indexBy p i s
  | [], i => .inl rfl
  | x :: r, i => by
    unfold indexBy
    split
    · right; omega
    · exact indexBy_none p r (i + 1)
theorem find_ne (s : List Fact) (a b c d e : Int) : (findFact s a b c d e != -1) = decide (0 ≤ findFact s a b c d e) := by
  unfold findFact
  rcases indexBy_none (factIs a b c d e) s 0 with h | h
  · rw [h]; rfl
  · rw [Bool.eq_iff_iff]; simp; omega
theorem r_spec_LeafHolds {fl f2 f3 f4 : Bool} (k : Nat) (hk : 281474976710656 + 10 ≤ k) (l : List Includes) (hl : l.length ≤ 140737488355328) (s : List Fact) (hs : s.length ≤ 140737488355328) (x : Cond) (q : Request) :
    run E noExt k 92 [.sl fl (l.map (Includes.enc fl)), .sl f2 (s.map (Fact.enc f2)), x.enc f3, q.enc f4] [] = some (.bool (leafAt l s q x), []) := by
  have c1 := r_spec_HasRole (fl := fl) (f2 := f2) (k - 1) (by omega) l hl s hs q.person x.a q.now x.b
  have c2 := r_spec_FindFact (fl := f2) (k - 1) (by omega) s hs 2 q.person q.device q.now x.b
  have c3 := r_spec_BestValue (fl := f2) (k - 1) (by omega) s hs 3 q.device q.now x.b
  have c4 := r_spec_BestValue (fl := f2) (k - 1) (by omega) s hs 4 q.program q.now x.b
  obtain ⟨k, rfl⟩ : ∃ j, k = j + 1 := ⟨k - 1, by omega⟩
  rw [run_succ rfl rfl, body_eq (nt := 72) (fn := Go.Proofs.Tryz.f92) (by kernel_rfl) rfl rfl rfl rfl rfl rfl rfl rfl]
  simp -implicitDefEqProofs only [Nat.add_sub_cancel] at c1 c2 c3 c4
  unfold leafAt
  cases e1 : (x.op == 1) with
  | true => simp -implicitDefEqProofs only [W1, ↓D1, ↓DC, Go.Proofs.Tryz.f92, enc_Cond, enc_Request, e1, ifEv_bool, reduceIte, Int.reduceToNat, id_eq, Int.reduceBEq, Int.reduceLE, Int.reduceLT, Nat.reduceAdd, Nat.reduceEqDiff, Nat.reduceLT, Nat.reduceLeDiff, Nat.reduceMul, Nat.reduceSub]
  | false =>
    cases e2 : (x.op == 2) with
    | true => simp -implicitDefEqProofs only [W1, ↓D1, ↓DC, Go.Proofs.Tryz.f92, enc_Cond, enc_Request, e1, e2, c1, ifEv_bool, reduceIte, Int.reduceToNat, id_eq, Int.reduceBEq, Int.reduceLE, Int.reduceLT, Nat.reduceAdd, Nat.reduceEqDiff, Nat.reduceLT, Nat.reduceLeDiff, Nat.reduceMul, Nat.reduceSub]
    | false =>
      cases e3 : (x.op == 3) with
      | true => simp -implicitDefEqProofs only [W1, ↓D1, ↓DC, Go.Proofs.Tryz.f92, enc_Cond, enc_Request, e1, e2, e3, c2, ifEv_bool, GE.ge, reduceIte, Int.reduceToNat, id_eq, Int.reduceBEq, Int.reduceLE, Int.reduceLT, Nat.reduceAdd, Nat.reduceEqDiff, Nat.reduceLT, Nat.reduceLeDiff, Nat.reduceMul, Nat.reduceSub]
      | false =>
        cases e4 : (x.op == 4) with
        | true => simp -implicitDefEqProofs only [W1, ↓D1, ↓DC, Go.Proofs.Tryz.f92, enc_Cond, enc_Request, e1, e2, e3, e4, c3, ifEv_bool, GE.ge, reduceIte, plan_92_9, plan_92_11, Int.reduceToNat, id_eq, Int.reduceBEq, Int.reduceLE, Int.reduceLT, Nat.reduceAdd, Nat.reduceEqDiff, Nat.reduceLT, Nat.reduceLeDiff, Nat.reduceMul, Nat.reduceSub]
        | false =>
          cases e5 : (x.op == 5) with
          | true => simp -implicitDefEqProofs only [W1, ↓D1, ↓DC, Go.Proofs.Tryz.f92, enc_Cond, enc_Request, e1, e2, e3, e4, e5, c4, ifEv_bool, GE.ge, reduceIte, plan_92_9, plan_92_11, Int.reduceToNat, id_eq, Int.reduceBEq, Int.reduceLE, Int.reduceLT, Nat.reduceAdd, Nat.reduceEqDiff, Nat.reduceLT, Nat.reduceLeDiff, Nat.reduceMul, Nat.reduceSub]
          | false =>
            cases e6 : (x.op == 6) <;> simp -implicitDefEqProofs only [W1, ↓D1, ↓DC, Go.Proofs.Tryz.f92, enc_Cond, enc_Request, e1, e2, e3, e4, e5, e6, ifEv_bool, reduceIte, plan_92_9, plan_92_11, Int.reduceToNat, id_eq, Int.reduceBEq, Int.reduceLE, Int.reduceLT, Nat.reduceAdd, Nat.reduceEqDiff, Nat.reduceLT, Nat.reduceLeDiff, Nat.reduceMul, Nat.reduceSub]
theorem r_impl_LeafHolds {fl f2 f3 f4 : Bool} (k : Nat) (hk : 281474976710656 + 11 ≤ k) (l : List Includes) (hl : l.length ≤ 140737488355328) (s : List Fact) (hs : s.length ≤ 1099511627776) (x : Cond) (q : Request) :
    run E noExt k 54 [.sl fl (l.map (Includes.enc fl)), .sl f2 (s.map (Fact.enc f2)), x.enc f3, q.enc f4] [] = some (.bool (leafAt l s q x), []) := by
  have c1 := r_impl_HasRole (fl := fl) (f2 := f2) (k - 1) (by omega) l hl s hs q.person x.a q.now x.b
  have c2 := r_impl_FindFact (fl := f2) (k - 1) (by omega) s (by omega) 2 q.person q.device q.now x.b
  have c3 := r_impl_BestValue (fl := f2) (k - 1) (by omega) s (by omega) 3 q.device q.now x.b
  have c4 := r_impl_BestValue (fl := f2) (k - 1) (by omega) s (by omega) 4 q.program q.now x.b
  have hne := find_ne s 2 q.person q.device q.now x.b
  generalize hb : decide (0 ≤ findFact s 2 q.person q.device q.now x.b) = b at hne
  obtain ⟨k, rfl⟩ : ∃ j, k = j + 1 := ⟨k - 1, by omega⟩
  rw [run_succ rfl rfl, body_eq (nt := 72) (fn := Go.Proofs.Tryz.f54) (by kernel_rfl) rfl rfl rfl rfl rfl rfl rfl rfl]
  simp -implicitDefEqProofs only [Nat.add_sub_cancel] at c1 c2 c3 c4
  unfold leafAt
  rw [hb]
  cases e1 : (x.op == 1) with
  | true => simp -implicitDefEqProofs only [W1, ↓D1, ↓DC, Go.Proofs.Tryz.f54, enc_Cond, enc_Request, e1, ifEv_bool, reduceIte, Int.reduceToNat, id_eq, Int.reduceBEq, Int.reduceLE, Int.reduceLT, Nat.reduceAdd, Nat.reduceEqDiff, Nat.reduceLT, Nat.reduceLeDiff, Nat.reduceMul, Nat.reduceSub]
  | false =>
    cases e2 : (x.op == 2) with
    | true => simp -implicitDefEqProofs only [W1, ↓D1, ↓DC, Go.Proofs.Tryz.f54, enc_Cond, enc_Request, e1, e2, c1, ifEv_bool, reduceIte, Int.reduceToNat, id_eq, Int.reduceBEq, Int.reduceLE, Int.reduceLT, Nat.reduceAdd, Nat.reduceEqDiff, Nat.reduceLT, Nat.reduceLeDiff, Nat.reduceMul, Nat.reduceSub]
    | false =>
      cases e3 : (x.op == 3) with
      | true => simp -implicitDefEqProofs only [W1, ↓D1, ↓DC, Go.Proofs.Tryz.f54, enc_Cond, enc_Request, e1, e2, e3, c2, hne, ifEv_bool, reduceIte, Int.reduceToNat, id_eq, Int.reduceBEq, Int.reduceLE, Int.reduceLT, Nat.reduceAdd, Nat.reduceEqDiff, Nat.reduceLT, Nat.reduceLeDiff, Nat.reduceMul, Nat.reduceSub]
      | false =>
        cases e4 : (x.op == 4) with
        | true => simp -implicitDefEqProofs only [W1, ↓D1, ↓DC, Go.Proofs.Tryz.f54, enc_Cond, enc_Request, e1, e2, e3, e4, c3, ifEv_bool, GE.ge, reduceIte, plan_54_9, plan_54_11, Int.reduceToNat, id_eq, Int.reduceBEq, Int.reduceLE, Int.reduceLT, Nat.reduceAdd, Nat.reduceEqDiff, Nat.reduceLT, Nat.reduceLeDiff, Nat.reduceMul, Nat.reduceSub]
        | false =>
          cases e5 : (x.op == 5) with
          | true => simp -implicitDefEqProofs only [W1, ↓D1, ↓DC, Go.Proofs.Tryz.f54, enc_Cond, enc_Request, e1, e2, e3, e4, e5, c4, ifEv_bool, GE.ge, reduceIte, plan_54_9, plan_54_11, Int.reduceToNat, id_eq, Int.reduceBEq, Int.reduceLE, Int.reduceLT, Nat.reduceAdd, Nat.reduceEqDiff, Nat.reduceLT, Nat.reduceLeDiff, Nat.reduceMul, Nat.reduceSub]
          | false =>
            cases e6 : (x.op == 6) <;> simp -implicitDefEqProofs only [W1, ↓D1, ↓DC, Go.Proofs.Tryz.f54, enc_Cond, enc_Request, e1, e2, e3, e4, e5, e6, ifEv_bool, reduceIte, plan_54_9, plan_54_11, Int.reduceToNat, id_eq, Int.reduceBEq, Int.reduceLE, Int.reduceLT, Nat.reduceAdd, Nat.reduceEqDiff, Nat.reduceLT, Nat.reduceLeDiff, Nat.reduceMul, Nat.reduceSub]
theorem r_spec_l18Eval0 {fl f2 f3 f4 : Bool} (l : List Includes) (hl : l.length ≤ 140737488355328) (s : List Fact) (hs : s.length ≤ 140737488355328) (q : Request) (x : Cond) : ∀ (k : Nat), 290271069732864 + 4 * x.w + 12 ≤ k → x.valid = true →
    run E noExt k 58 [.sl fl (l.map (Includes.enc fl)), .sl f2 (s.map (Fact.enc f2)), x.enc f3, q.enc f4] [] = some (.bool (x.eval (leafAt l s q)), []) := by
  induction x using Cond.induct with
  | h x ih =>
    intro k hk hv
    rw [x.w_eq] at hk
    have c0 := r_spec_LeafHolds (fl := fl) (f2 := f2) (f3 := f3) (f4 := f4) (k - 1) (by omega) l hl s hs x q
    have c1 : ∀ c ∈ x.args, c.valid = true → run E noExt (k - 1) 58 [.sl fl (l.map (Includes.enc fl)), .sl f2 (s.map (Fact.enc f2)), c.enc f3, q.enc f4] [] = some (.bool (c.eval (leafAt l s q)), []) := fun c hc hcv => ih c hc _ (by have := wl_mem (w := Cond.w) hc; omega) hcv
    clear ih
    obtain ⟨a7, a8, a9⟩ := valid_args hv
    rw [x.eval_eq]
    by_cases e7 : x.op = 7
    · have b7 : (x.op == 7) = true := by simp [e7]
      obtain ⟨a, ha, va⟩ := a7 e7
      have c2 := c1 a (by rw [ha]; simp) va
      clear c0 c1
      obtain ⟨k, rfl⟩ : ∃ j, k = j + 1 := ⟨k - 1, by omega⟩
      rw [run_succ rfl rfl, body_eq (nt := 67) (fn := Go.Proofs.Tryz.f58) (by kernel_rfl) rfl rfl rfl rfl rfl rfl rfl rfl]
      simp -implicitDefEqProofs only [Nat.add_sub_cancel, enc_Cond, enc_Request] at c2
      simp -implicitDefEqProofs only [W1, ↓D1, ↓DC, QX, Go.Proofs.Tryz.f58, enc_Cond, enc_Request, b7, ha, c2, List.getD_cons_zero, plan_58_3, plan_58_5, plan_58_7, Int.reduceToNat, id_eq, Int.reduceBEq, Int.reduceLE, Int.reduceLT, Nat.reduceAdd, Nat.reduceEqDiff, Nat.reduceLT, Nat.reduceLeDiff, Nat.reduceMul, Nat.reduceSub, reduceIte]
      repeat' (split <;> (rename_i h; (try simp -implicitDefEqProofs only [Bool.not_eq_true', Bool.not_eq_false', decide_eq_true_eq, decide_eq_false_iff_not] at h); (try simp -implicitDefEqProofs only [W1, ↓D1, ↓DC, QX, *, enc_Cond, enc_Request, b7, ha, c2, List.getD_cons_zero, plan_58_3, plan_58_5, plan_58_7, Int.reduceToNat, id_eq, Int.reduceBEq, Int.reduceLE, Int.reduceLT, Nat.reduceAdd, Nat.reduceEqDiff, Nat.reduceLT, Nat.reduceLeDiff, Nat.reduceMul, Nat.reduceSub, reduceIte])))
    · have b7 : (x.op == 7) = false := by simp [e7]
      by_cases e8 : x.op = 8
      · have b8 : (x.op == 8) = true := by simp [e8]
        obtain ⟨a, b, ha, va, vb⟩ := a8 e8
        have c2 := c1 a (by rw [ha]; simp) va
        have c3 := c1 b (by rw [ha]; simp) vb
        clear c0 c1
        obtain ⟨k, rfl⟩ : ∃ j, k = j + 1 := ⟨k - 1, by omega⟩
        rw [run_succ rfl rfl, body_eq (nt := 67) (fn := Go.Proofs.Tryz.f58) (by kernel_rfl) rfl rfl rfl rfl rfl rfl rfl rfl]
        simp -implicitDefEqProofs only [Nat.add_sub_cancel, enc_Cond, enc_Request] at c2 c3
        simp -implicitDefEqProofs only [W1, ↓D1, ↓DC, QX, Go.Proofs.Tryz.f58, enc_Cond, enc_Request, b7, b8, ha, c2, c3, List.getD_cons_zero, List.getD_cons_succ, plan_58_3, plan_58_5, plan_58_7, Int.reduceToNat, id_eq, Int.reduceBEq, Int.reduceLE, Int.reduceLT, Nat.reduceAdd, Nat.reduceEqDiff, Nat.reduceLT, Nat.reduceLeDiff, Nat.reduceMul, Nat.reduceSub, reduceIte]
        repeat' (split <;> (rename_i h; (try simp -implicitDefEqProofs only [Bool.not_eq_true', Bool.not_eq_false', decide_eq_true_eq, decide_eq_false_iff_not] at h); (try simp -implicitDefEqProofs only [W1, ↓D1, ↓DC, QX, *, enc_Cond, enc_Request, b7, b8, ha, c2, c3, List.getD_cons_zero, List.getD_cons_succ, plan_58_3, plan_58_5, plan_58_7, Int.reduceToNat, id_eq, Int.reduceBEq, Int.reduceLE, Int.reduceLT, Nat.reduceAdd, Nat.reduceEqDiff, Nat.reduceLT, Nat.reduceLeDiff, Nat.reduceMul, Nat.reduceSub, reduceIte])))
      · have b8 : (x.op == 8) = false := by simp [e8]
        by_cases e9 : x.op = 9
        · have b9 : (x.op == 9) = true := by simp [e9]
          obtain ⟨a, b, ha, va, vb⟩ := a9 e9
          have c2 := c1 a (by rw [ha]; simp) va
          have c3 := c1 b (by rw [ha]; simp) vb
          clear c0 c1
          obtain ⟨k, rfl⟩ : ∃ j, k = j + 1 := ⟨k - 1, by omega⟩
          rw [run_succ rfl rfl, body_eq (nt := 67) (fn := Go.Proofs.Tryz.f58) (by kernel_rfl) rfl rfl rfl rfl rfl rfl rfl rfl]
          simp -implicitDefEqProofs only [Nat.add_sub_cancel, enc_Cond, enc_Request] at c2 c3
          simp -implicitDefEqProofs only [W1, ↓D1, ↓DC, QX, Go.Proofs.Tryz.f58, enc_Cond, enc_Request, b7, b8, b9, ha, c2, c3, List.getD_cons_zero, List.getD_cons_succ, plan_58_3, plan_58_5, plan_58_7, Int.reduceToNat, id_eq, Int.reduceBEq, Int.reduceLE, Int.reduceLT, Nat.reduceAdd, Nat.reduceEqDiff, Nat.reduceLT, Nat.reduceLeDiff, Nat.reduceMul, Nat.reduceSub, reduceIte]
          repeat' (split <;> (rename_i h; (try simp -implicitDefEqProofs only [Bool.not_eq_true', Bool.not_eq_false', decide_eq_true_eq, decide_eq_false_iff_not] at h); (try simp -implicitDefEqProofs only [W1, ↓D1, ↓DC, QX, *, enc_Cond, enc_Request, b7, b8, b9, ha, c2, c3, List.getD_cons_zero, List.getD_cons_succ, plan_58_3, plan_58_5, plan_58_7, Int.reduceToNat, id_eq, Int.reduceBEq, Int.reduceLE, Int.reduceLT, Nat.reduceAdd, Nat.reduceEqDiff, Nat.reduceLT, Nat.reduceLeDiff, Nat.reduceMul, Nat.reduceSub, reduceIte])))
        · have b9 : (x.op == 9) = false := by simp [e9]
          clear c1
          obtain ⟨k, rfl⟩ : ∃ j, k = j + 1 := ⟨k - 1, by omega⟩
          rw [run_succ rfl rfl, body_eq (nt := 67) (fn := Go.Proofs.Tryz.f58) (by kernel_rfl) rfl rfl rfl rfl rfl rfl rfl rfl]
          simp -implicitDefEqProofs only [Nat.add_sub_cancel, enc_Cond, enc_Request] at c0
          simp -implicitDefEqProofs only [W1, ↓D1, ↓DC, QX, Go.Proofs.Tryz.f58, enc_Cond, enc_Request, b7, b8, b9, c0, plan_58_3, plan_58_5, plan_58_7, Int.reduceToNat, id_eq, Int.reduceBEq, Int.reduceLE, Int.reduceLT, Nat.reduceAdd, Nat.reduceEqDiff, Nat.reduceLT, Nat.reduceLeDiff, Nat.reduceMul, Nat.reduceSub, reduceIte]
          repeat' (split <;> (rename_i h; (try simp -implicitDefEqProofs only [Bool.not_eq_true', Bool.not_eq_false', decide_eq_true_eq, decide_eq_false_iff_not] at h); (try simp -implicitDefEqProofs only [W1, ↓D1, ↓DC, QX, *, enc_Cond, enc_Request, b7, b8, b9, c0, plan_58_3, plan_58_5, plan_58_7, Int.reduceToNat, id_eq, Int.reduceBEq, Int.reduceLE, Int.reduceLT, Nat.reduceAdd, Nat.reduceEqDiff, Nat.reduceLT, Nat.reduceLeDiff, Nat.reduceMul, Nat.reduceSub, reduceIte])))
noncomputable def evalAt (l : List Includes) (s : List Fact) (q : Request) (x : Cond) : Bool := isCond x && x.eval (leafAt l s q)
theorem r_spec_EvalCond {fl f2 f3 f4 : Bool} (k : Nat) (hk : 294669116243968 + 14 ≤ k) (l : List Includes) (hl : l.length ≤ 140737488355328) (s : List Fact) (hs : s.length ≤ 140737488355328) (x : Cond) (hx : x.w ≤ 1099511627776) (q : Request) :
    run E noExt k 25 [.sl fl (l.map (Includes.enc fl)), .sl f2 (s.map (Fact.enc f2)), x.enc f3, q.enc f4] [] = some (.bool (evalAt l s q x), []) := by
  have c1 := r_spec_IsCond (fl := f3) (k - 1) (by omega) x hx
  have c2 := r_spec_l18Eval0 (fl := fl) (f2 := f2) (f3 := f3) (f4 := f4) l hl s hs q x (k - 1) (by omega)
  unfold evalAt
  obtain ⟨k, rfl⟩ : ∃ j, k = j + 1 := ⟨k - 1, by omega⟩
  rw [run_succ rfl rfl, body_eq (nt := 18) (fn := Go.Proofs.Tryz.f25) (by kernel_rfl) rfl rfl rfl rfl rfl rfl rfl rfl]
  simp -implicitDefEqProofs only [Nat.add_sub_cancel, enc_Cond, enc_Request] at c1 c2
  cases h : isCond x
  · simp -implicitDefEqProofs only [h] at c1
    simp -implicitDefEqProofs only [W1, ↓D1, ↓DC, QX, Go.Proofs.Tryz.f25, enc_Cond, enc_Request, c1, Int.reduceToNat, id_eq, Int.reduceBEq, Int.reduceLE, Int.reduceLT, Nat.reduceAdd, Nat.reduceEqDiff, Nat.reduceLT, Nat.reduceLeDiff, Nat.reduceMul, Nat.reduceSub, reduceIte]
    repeat' (split <;> (rename_i h; (try simp -implicitDefEqProofs only [Bool.not_eq_true', Bool.not_eq_false', decide_eq_true_eq, decide_eq_false_iff_not] at h); (try simp -implicitDefEqProofs only [W1, ↓D1, ↓DC, QX, *, enc_Cond, enc_Request, c1, Int.reduceToNat, id_eq, Int.reduceBEq, Int.reduceLE, Int.reduceLT, Nat.reduceAdd, Nat.reduceEqDiff, Nat.reduceLT, Nat.reduceLeDiff, Nat.reduceMul, Nat.reduceSub, reduceIte])))
  · have hv : x.valid = true := by
      unfold isCond at h
      simp -implicitDefEqProofs only [Bool.and_eq_true] at h
      exact h.2
    have c3 := c2 hv
    simp -implicitDefEqProofs only [h] at c1
    simp -implicitDefEqProofs only [W1, ↓D1, ↓DC, QX, Go.Proofs.Tryz.f25, enc_Cond, enc_Request, c1, c3, Int.reduceToNat, id_eq, Int.reduceBEq, Int.reduceLE, Int.reduceLT, Nat.reduceAdd, Nat.reduceEqDiff, Nat.reduceLT, Nat.reduceLeDiff, Nat.reduceMul, Nat.reduceSub, reduceIte]
    repeat' (split <;> (rename_i h; (try simp -implicitDefEqProofs only [Bool.not_eq_true', Bool.not_eq_false', decide_eq_true_eq, decide_eq_false_iff_not] at h); (try simp -implicitDefEqProofs only [W1, ↓D1, ↓DC, QX, *, enc_Cond, enc_Request, c1, c3, Int.reduceToNat, id_eq, Int.reduceBEq, Int.reduceLE, Int.reduceLT, Nat.reduceAdd, Nat.reduceEqDiff, Nat.reduceLT, Nat.reduceLeDiff, Nat.reduceMul, Nat.reduceSub, reduceIte])))
theorem r_impl_EvalCond1 {fl f2 f3 f4 : Bool} (k : Nat) (hk : 281474976710656 + 12 ≤ k) (l : List Includes) (hl : l.length ≤ 140737488355328) (s : List Fact) (hs : s.length ≤ 1099511627776) (x : Cond) (q : Request) :
    run E noExt k 53 [x.enc f3, .cptr [.sl fl (l.map (Includes.enc fl))], .cptr [.sl f2 (s.map (Fact.enc f2))], .cptr [.int .i64 q.person, .int .i64 q.device, .int .i64 q.program, .int .i64 q.action, .int .i64 q.object, .int .i64 q.now]] [] = some (.bool (leafAt l s q x), []) := by
  have c1 := r_impl_LeafHolds (fl := fl) (f2 := f2) (f3 := f3) (f4 := f4) (k - 1) (by omega) l hl s hs x q
  obtain ⟨k, rfl⟩ : ∃ j, k = j + 1 := ⟨k - 1, by omega⟩
  rw [run_succ rfl rfl, body_eq (nt := 11) (fn := Go.Proofs.Tryz.f53) (by kernel_rfl) rfl rfl rfl rfl rfl rfl rfl rfl]
  simp -implicitDefEqProofs only [Nat.add_sub_cancel, enc_Cond, enc_Request] at c1
  simp -implicitDefEqProofs only [W1, ↓D1, ↓DC, Go.Proofs.Tryz.f53, enc_Cond, c1, Int.reduceToNat, id_eq, Int.reduceBEq, Int.reduceLE, Int.reduceLT, Nat.reduceAdd, Nat.reduceEqDiff, Nat.reduceLT, Nat.reduceLeDiff, Nat.reduceMul, Nat.reduceSub, reduceIte]
theorem r_impl_EvalCond {fl f2 f3 f4 : Bool} (k : Nat) (hk : 884940186000000 + 7 ≤ k) (l : List Includes) (hl : l.length ≤ 140737488355328) (s : List Fact) (hs : s.length ≤ 1099511627776) (x : Cond) (hx : x.w ≤ 1099511627776) (q : Request) :
    run E noExt k 21 [.sl fl (l.map (Includes.enc fl)), .sl f2 (s.map (Fact.enc f2)), x.enc f3, q.enc f4] [] = some (.bool (evalAt l s q x), []) := by
  have c1 := r_impl_IsCond (fl := f3) (k - 1) (by omega) x hx
  have c2 := r_impl_evalWith0 (fl := f3) 53 [.cptr [.sl fl (l.map (Includes.enc fl))], .cptr [.sl f2 (s.map (Fact.enc f2))], .cptr [.int .i64 q.person, .int .i64 q.device, .int .i64 q.program, .int .i64 q.action, .int .i64 q.object, .int .i64 q.now]] (plain_of rfl) (leafAt l s q) (281474976710656 + 12) (fun k hk c hc => r_impl_EvalCond1 (f3 := f3) (f4 := f4) k hk l hl s hs c q) x rfl (k - 1) (by omega)
  unfold evalAt
  obtain ⟨k, rfl⟩ : ∃ j, k = j + 1 := ⟨k - 1, by omega⟩
  rw [run_succ rfl rfl, body_eq (nt := 16) (fn := Go.Proofs.Tryz.f21) (by kernel_rfl) rfl rfl rfl rfl rfl rfl rfl rfl]
  simp -implicitDefEqProofs only [Nat.add_sub_cancel, enc_Cond] at c1 c2
  cases h : isCond x
  · simp -implicitDefEqProofs only [h] at c1
    simp -implicitDefEqProofs only [W1, ↓D1, ↓DC, QX, Go.Proofs.Tryz.f21, enc_Cond, enc_Request, c1, Int.reduceToNat, id_eq, Int.reduceBEq, Int.reduceLE, Int.reduceLT, Nat.reduceAdd, Nat.reduceEqDiff, Nat.reduceLT, Nat.reduceLeDiff, Nat.reduceMul, Nat.reduceSub, reduceIte]
    repeat' (split <;> (rename_i h; (try simp -implicitDefEqProofs only [Bool.not_eq_true', Bool.not_eq_false', decide_eq_true_eq, decide_eq_false_iff_not] at h); (try simp -implicitDefEqProofs only [W1, ↓D1, ↓DC, QX, *, enc_Cond, enc_Request, c1, Int.reduceToNat, id_eq, Int.reduceBEq, Int.reduceLE, Int.reduceLT, Nat.reduceAdd, Nat.reduceEqDiff, Nat.reduceLT, Nat.reduceLeDiff, Nat.reduceMul, Nat.reduceSub, reduceIte])))
  · have hv : x.valid = true := by
      unfold isCond at h
      simp -implicitDefEqProofs only [Bool.and_eq_true] at h
      exact h.2
    have c3 := c2 hv hx
    simp -implicitDefEqProofs only [h] at c1
    simp -implicitDefEqProofs only [W1, ↓D1, ↓DC, QX, Go.Proofs.Tryz.f21, enc_Cond, enc_Request, c1, c3, Int.reduceToNat, id_eq, Int.reduceBEq, Int.reduceLE, Int.reduceLT, Nat.reduceAdd, Nat.reduceEqDiff, Nat.reduceLT, Nat.reduceLeDiff, Nat.reduceMul, Nat.reduceSub, reduceIte]
    repeat' (split <;> (rename_i h; (try simp -implicitDefEqProofs only [Bool.not_eq_true', Bool.not_eq_false', decide_eq_true_eq, decide_eq_false_iff_not] at h); (try simp -implicitDefEqProofs only [W1, ↓D1, ↓DC, QX, *, enc_Cond, enc_Request, c1, c3, Int.reduceToNat, id_eq, Int.reduceBEq, Int.reduceLE, Int.reduceLT, Nat.reduceAdd, Nat.reduceEqDiff, Nat.reduceLT, Nat.reduceLeDiff, Nat.reduceMul, Nat.reduceSub, reduceIte])))
end Go.Proofs.YtokjpncehggojaaGreat.Flat
