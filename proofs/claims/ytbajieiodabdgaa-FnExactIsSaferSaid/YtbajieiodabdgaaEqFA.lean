/-
A diagram built from a table.
-/
import Derived.Test.YtbajieiodabdgaaEqTO
import Derived.Test.YtbajieiodabdgaaEqDO
import Derived.Test.YtbajieiodabdgaaEqIOB
set_option linter.unusedVariables false
set_option linter.unusedSimpArgs false
set_option maxRecDepth 10000
namespace Go.Proofs.Ytbajieiodabdgaa.Flat
/-- The row of a variable's nodes: none yet, or ours. -/
noncomputable def encR (id : Nat) (s : List Choice) : AV := if s = [] then .nils else .own id false 153 3 (s.map (Choice.enc true))
noncomputable def rowsN (id : Nat) (s : List Choice) : List Nat := if s = [] then [] else [id]
noncomputable def rowsL (s : List Choice) : Nat := if s = [] then 0 else 1
theorem encR_nil {id : Nat} : encR id [] = .nils := if_pos rfl
theorem encR_ne {id : Nat} {s : List Choice} (h : s ≠ []) : encR id s = .own id false 153 3 (s.map (Choice.enc true)) := if_neg h
theorem encR_one {id : Nat} {c : Choice} : encR id [c] = .own id false 153 3 [c.enc true] := if_neg (by simp)
theorem rowsN_nil {id : Nat} : rowsN id [] = [] := if_pos rfl
theorem rowsN_ne {id : Nat} {s : List Choice} (h : s ≠ []) : rowsN id s = [id] := if_neg h
theorem rowsL_nil : rowsL [] = 0 := if_pos rfl
theorem rowsL_ne {s : List Choice} (h : s ≠ []) : rowsL s = 1 := if_neg h
theorem append_ne {s : List Choice} {c : Choice} : s ++ [c] ≠ [] := by simp
theorem rows_encR {id : Nat} {s : List Choice} : (encR id s).rows = rowsN id s := by unfold encR rowsN; split <;> rfl
theorem boxes_encR {id : Nat} {s : List Choice} : (encR id s).boxes = [] := by unfold encR; split <;> rfl
theorem isCell_encR {id : Nat} {s : List Choice} : (encR id s).isCell = true := by unfold encR; split <;> rfl
theorem len_rowsN {id : Nat} {s : List Choice} : (rowsN id s).length = rowsL s := by unfold rowsN rowsL; split <;> rfl
theorem dedup_rowsN {id : Nat} {s : List Choice} : dedup (rowsN id s) = rowsN id s := by unfold rowsN; split <;> rfl
theorem nodup_rowsN {id : Nat} {s : List Choice} : nodupB (rowsN id s) = true := by unfold rowsN; split <;> rfl
theorem all_rowsN {id : Nat} {s : List Choice} : ((rowsN id s).all fun r => decide (r ∈ rowsN id s)) = true := by unfold rowsN; split <;> simp
theorem any_encR {id : Nat} {s : List Choice} : AV.any isBad (encR id s) = false := by unfold encR; split <;> rfl
theorem mapO_encR {id : Nat} {s : List Choice} {p : Nat → Nat → AV} {h : Bool → Nat → Bool → Nat → Nat → List AV → Nat → Nat → AV} : AV.mapO (fun i fz e sz xs => .own (idx (rowsN id s) i) fz e sz xs) p h (fun _ => .nils) (encR id s) = encR 0 s := by
  unfold encR rowsN
  split
  · rfl
  · simp [AV.mapO, idx]
theorem back_rowsN {nid id : Nat} {s : List Choice} {ps : List (Nat × AV)} {st : St} : St.back nid (rowsN id s) ps st = st.mapO (backO nid (rowsN id s) ps) .ptr (backE (rowsN id s)) := rfl
theorem scals_Choice (m : List Choice) : AV.scals (m.map (Choice.enc true)) = true := by
  induction m with
  | nil => rfl
  | cons c m ih => simp -implicitDefEqProofs only [List.map_cons, AV.scals, enc_Choice, AV.scal, Bool.true_and]; exact ih
theorem ref_encR {id : Nat} {s : List Choice} : AV.any isRef (encR id s) = false := by
  unfold encR
  split
  · rfl
  · simp -implicitDefEqProofs only [AV.any, isRef, scals_Choice, Bool.not_true]
theorem scal_encR {s : List Choice} : noref (encR 0 s) = true := by unfold noref; rw [ref_encR]; rfl
theorem small_rowsN {s : List Choice} : ((rowsN 0 s).all fun i => decide (i < 8)) = true := by unfold rowsN; split <;> simp
theorem imp_encR {nid id : Nat} {s : List Choice} {p : Nat → Nat → AV} {h : Bool → Nat → Bool → Nat → Nat → List AV → Nat → Nat → AV} : AV.mapO (fun i fz e sz xs => .own (nid + i) fz e sz xs) p h (fun _ => .nils) (encR id s) = encR (nid + id) s := by
  unfold encR
  split <;> rfl
theorem lend_encR4 {bx : Nat → Option (List AV)} {id : Nat} {s : List Choice} : lend bx 4 (encR id s) = .sl true (s.map (Choice.enc true)) := by
  unfold encR
  split
  · rename_i h
    subst h
    rfl
  · simp -implicitDefEqProofs only [lend, AV.mapO, shuts_Choice]
theorem give_build {Φ : Phi} {nid f n id b : Nat} {dst : Option Nat} {st : St} {ns ns1 : List Choice} {root lo : Int} {u v w : AV} (hu : u.any isPtr = false) (hur : u.rows = []) (hv : v.any isPtr = false) (hvr : v.rows = []) (hw : w.any isPtr = false) (hwr : w.rows = []) (hul : lend st.box 4 u = u) (hvl : lend st.box 4 v = v) (hwl : lend st.box 4 w = w)
    (hb : st.box b = some [.int .i64 (n : Nat), encR id ns, .int .i64 root])
    (hΦ : Φ f [.ptr 0 0, u, v, w] [[.int .i64 (n : Nat), encR 0 ns, .int .i64 root]] = some (.int .i64 lo, [[.int .i64 (n : Nat), encR 0 ns1, .int .i64 root]])) :
    evCall Φ [.io, .ro, .ro, .ro] nid f [.ptr b 0, u, v, w] [] dst st = (((st.back nid (rowsN id ns) []).setBox b [.int .i64 (n : Nat), encR nid ns1, .int .i64 root]).put dst (.int .i64 lo)) := by
  have hsc : AV.scals (ns1.map (Choice.enc true)) = true := scals_Choice _
  rcases Classical.em (ns = []) with e0 | e0 <;> rcases Classical.em (ns1 = []) with e1 | e1
  all_goals
    simp -implicitDefEqProofs only [encR_nil, rowsN_nil, encR_ne, rowsN_ne, e0, e1, ne_eq, not_false_eq_true] at hb hΦ ⊢
    simp -implicitDefEqProofs only [QS, QN, QG, QO, hb, hu, hur, hv, hvr, hw, hwr, hul, hvl, hwl, hΦ, hsc, look_nil, evCall_io1, evCall_io2, evCall_io3, evCall_io4, finJ_1, finJ_2, finJ_3, finJ_4, finJ_int, finJ_bool, finJ_str, finJ_nils, finJ_agg, finJ_own, finJ_sl, finJ_tup, look_cons, reduceCtorEq, evCall_mutOwn, evCall_mutAgg, evGive, giveRows, ioBoxes, mutArgs, roArgs, handArg, mutSlots, isPtrB, pairs, pairss, back_nil, back_cons, backO, backE, setBoxes, importB, mode_mut, mode_give, mode_io, mode_ro, List.zip_cons_cons, List.zip_nil_left, List.zip_nil_right, ite_self, ite_true, ite_false, finish_give, finish_mut1, finish_io0, finish_io2, finish_io3, finish_ioc, finI, finC, finW_ptr, SO, SH, frzO, frzE, AV.laid, AV.treeV, AV.treeC, St.laid, spent, AV.subs, AV.shut, AV.scal, AV.scals, evBuildSlice, elemsOf, zeroOK, evAppend, rowOf, noref, isRef, small, import_, AV.any, AV.anys, isPtr, finV, rename, noPtr, isBad, AV.isUndef, St.setRow, AV.shutV, rebuild, isAggV, evBuild, fillCells, evCutOwn, dedup, nodupB, idx, AV.rows, AV.rowss, AV.mapO, AV.mapOs, firstRegion, gc, keptBoxes, keptRows, renameB, AV.boxes, AV.boxess, SN, evCutRow, Int.reduceToNat, id_eq, Int.reduceBEq, Int.reduceLE, Int.reduceLT, SS, one_ne2, num_ne2, TIS, MDS, wanted, numbered, plainC, plainS, evEq, eqK, evBox, evAlloc, evStore, evLoad, evFieldAddr, behind, takeVal, AV.cells, AV.isCell, ofCells, ofCell, Value.cells, Nat.reduceAdd, Nat.reduceEqDiff, Nat.reduceLT, Nat.reduceLeDiff, Nat.reduceMul, Nat.reduceSub, reduceIte]
noncomputable def bldJoin (a : Nat) (lo hi : Int) (ns : List Choice) : Int × List Choice :=
  if (lo == hi) = true then (lo, ns) else
  if 0 ≤ indexBy (fun c => decide ((⟨(a : Nat), lo, hi⟩ : Choice) = c)) 0 ns then (indexBy (fun c => decide ((⟨(a : Nat), lo, hi⟩ : Choice) = c)) 0 ns, ns)
  else ((ns.length : Nat), ns ++ [⟨(a : Nat), lo, hi⟩])
theorem bldJoin_len (a : Nat) (lo hi : Int) (ns : List Choice) : (bldJoin a lo hi ns).2.length ≤ ns.length + 1 := by
  unfold bldJoin
  split
  · simp only; omega
  · split
    · simp only; omega
    · simp -implicitDefEqProofs only [List.length_append, List.length_singleton]; omega
noncomputable def bld (table : List Bool) : Nat → Nat → Nat → List Choice → Int × List Choice
  | 0, a, g, ns => (if table.getD g false = true then -1 else -2, ns)
  | m + 1, a, g, ns => bldJoin a (bld table m (a + 1) g ns).1 (bld table m (a + 1) (g + 2 ^ a) (bld table m (a + 1) g ns).2).1 (bld table m (a + 1) (g + 2 ^ a) (bld table m (a + 1) g ns).2).2
theorem bld_len (table : List Bool) : ∀ (m a g : Nat) (ns : List Choice), (bld table m a g ns).2.length ≤ ns.length + (2 ^ m - 1)
  | 0, a, g, ns => by simp [bld]
  | m + 1, a, g, ns => by
    have h1 := bld_len table m (a + 1) g ns
    have h2 := bld_len table m (a + 1) (g + 2 ^ a) (bld table m (a + 1) g ns).2
    have h3 : 0 < 2 ^ m := Nat.pow_pos (by decide)
    have h4 : 2 ^ (m + 1) = 2 * 2 ^ m := by rw [Nat.pow_succ]; omega
    have h5 := bldJoin_len a (bld table m (a + 1) g ns).1 (bld table m (a + 1) (g + 2 ^ a) (bld table m (a + 1) g ns).2).1 (bld table m (a + 1) (g + 2 ^ a) (bld table m (a + 1) g ns).2).2
    simp -implicitDefEqProofs only [bld]
    omega
end Go.Proofs.Ytbajieiodabdgaa.Flat
