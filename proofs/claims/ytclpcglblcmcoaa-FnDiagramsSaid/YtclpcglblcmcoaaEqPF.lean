/-
The draws: numbers.
-/
import Derived.Test.YtclpcglblcmcoaaEqDR
import Derived.Test.YtclpcglblcmcoaaEqFA
import Derived.Test.YtclpcglblcmcoaaEqS
set_option linter.unusedVariables false
set_option linter.unusedSimpArgs false
set_option maxRecDepth 10000
namespace Go.Proofs.Ytclpcglblcmcoaa.Flat
theorem below_lt (bs : List Int) {n : Int} (h0 : 0 < n) (h1 : n ≤ 256) (i : Nat) (h : Int) : 0 ≤ below1 bs n i h ∧ below1 bs n i h < n := by
  have hb := byteAt_le bs i h
  unfold below1
  rw [if_neg (by omega), if_pos h1]
  exact ⟨Int.tmod_nonneg _ hb.1, Int.tmod_lt_of_pos _ h0⟩
theorem r_spec_l1Once {fl : Bool} (k : Nat) (hk : 281474976710656 + 3 ≤ k) (bs : List Int) (hb : bs.length ≤ 140737488355328) (n : Int) (i : Nat) (h : Int) :
    run E noExt k 25 [.ptr 0 0, .int .i64 n] [[.sl fl (bs.map byteA), .int .i64 (i : Nat), .int .i64 h]] = some (.bool (below1 bs n i h == 0), [[.sl fl (bs.map byteA), .int .i64 (belowI bs n i : Nat), .int .i64 (belowH n h)]]) := by
  have c1 := fun n i h => r_spec_l1Below (fl := fl) (k - 1) (by omega) bs hb n i h
  obtain ⟨k, rfl⟩ : ∃ j, k = j + 1 := ⟨k - 1, by omega⟩
  rw [run_succ rfl rfl, body_eq (nt := 9) (fn := Go.Proofs.Try.f25) (by kernel_rfl) rfl rfl rfl rfl rfl rfl rfl rfl]
  simp -implicitDefEqProofs only [Nat.add_sub_cancel] at c1
  simp -implicitDefEqProofs only [W3, ↓D3, ↓DA, ↓DP, ↓DC, Go.Proofs.Try.f25, c1, look_nil, evCall_io1, evCall_io2, evCall_io3, evCall_io4, finJ_1, finJ_2, finJ_3, finJ_4, finJ_int, finJ_bool, finJ_str, finJ_nils, finJ_agg, finJ_own, finJ_sl, finJ_tup, look_cons, reduceCtorEq, evCall_mutOwn, evCall_mutAgg, evGive, giveRows, ioBoxes, mutArgs, roArgs, handArg, mutSlots, isPtrB, pairs, pairss, back_nil, back_cons, backO, backE, setBoxes, importB, mode_mut, mode_give, mode_io, mode_ro, List.zip_cons_cons, List.zip_nil_left, List.zip_nil_right, ite_self, ite_true, ite_false, finish_give, finish_mut1, finish_io0, finish_io2, finish_io3, finish_ioc, finI, finC, finW_ptr, SH, Int.reduceToNat, id_eq, Int.reduceBEq, Int.reduceLE, Int.reduceLT, Nat.reduceAdd, Nat.reduceEqDiff, Nat.reduceLT, Nat.reduceLeDiff, Nat.reduceMul, Nat.reduceSub, reduceIte]
def oneOf (bs : List Int) (l : List Int) (i : Nat) (h : Int) : Int := l.getD (below1 bs (l.length : Nat) i h).toNat 0
theorem r_spec_l1Int {fl : Bool} (k : Nat) (hk : 281474976710656 + 3 ≤ k) (bs : List Int) (hb : bs.length ≤ 140737488355328) (l : List Int) (hl : 0 < l.length ∧ l.length ≤ 256) (i : Nat) (h : Int) :
    run E noExt k 18 [.ptr 0 0, .sl true (l.map (.int .i64))] [[.sl fl (bs.map byteA), .int .i64 (i : Nat), .int .i64 h]] = some (.int .i64 (oneOf bs l i h), [[.sl fl (bs.map byteA), .int .i64 (belowI bs (l.length : Nat) i : Nat), .int .i64 (belowH (l.length : Nat) h)]]) := by
  have c1 := fun n i h => r_spec_l1Below (fl := fl) (k - 1) (by omega) bs hb n i h
  have hlt := below_lt bs (n := ((l.length : Nat) : Int)) (by omega) (by omega) i h
  obtain ⟨k, rfl⟩ : ∃ j, k = j + 1 := ⟨k - 1, by omega⟩
  rw [run_succ rfl rfl, body_eq (nt := 12) (fn := Go.Proofs.Try.f18) (by kernel_rfl) rfl rfl rfl rfl rfl rfl rfl rfl]
  simp -implicitDefEqProofs only [Nat.add_sub_cancel] at c1
  unfold oneOf
  generalize hd : below1 bs ((l.length : Nat) : Int) i h = d at *
  obtain ⟨m, rfl⟩ : ∃ m : Nat, d = (m : Int) := ⟨d.toNat, by omega⟩
  have hm : m < l.length := by omega
  have hx : l[m]? = some l[m] := List.getElem?_eq_getElem hm
  have hx2 : l.getD m 0 = l[m] := by rw [List.getD_eq_getElem?_getD, hx]; rfl
  have hlt2 : ((m : Nat) : Int) < ((l.length : Nat) : Int) := by omega
  simp -implicitDefEqProofs only [W3, ↓D3, ↓DA, ↓DP, ↓DC, Go.Proofs.Try.f18, c1, hd, hx, hx2, hlt2, hm, look_nil, evCall_io1, evCall_io2, evCall_io3, evCall_io4, finJ_1, finJ_2, finJ_3, finJ_4, finJ_int, finJ_bool, finJ_str, finJ_nils, finJ_agg, finJ_own, finJ_sl, finJ_tup, look_cons, reduceCtorEq, evCall_mutOwn, evCall_mutAgg, evGive, giveRows, ioBoxes, mutArgs, roArgs, handArg, mutSlots, isPtrB, pairs, pairss, back_nil, back_cons, backO, backE, setBoxes, importB, mode_mut, mode_give, mode_io, mode_ro, List.zip_cons_cons, List.zip_nil_left, List.zip_nil_right, ite_self, ite_true, ite_false, finish_give, finish_mut1, finish_io0, finish_io2, finish_io3, finish_ioc, finI, finC, finW_ptr, SH, Int.reduceToNat, id_eq, Int.reduceBEq, Int.reduceLE, Int.reduceLT, Nat.reduceAdd, Nat.reduceEqDiff, Nat.reduceLT, Nat.reduceLeDiff, Nat.reduceMul, Nat.reduceSub, reduceIte]
theorem ref_bytes {fl : Bool} {bs : List Int} : isRef (.sl fl (bs.map byteA)) = !bs.isEmpty := by cases bs <;> rfl
abbrev Draw (α : Type) := α × Nat × Int
def oneD (bs : List Int) (l : List Int) (i : Nat) (h : Int) : Draw Int := (oneOf bs l i h, belowI bs (l.length : Nat) i, belowH (l.length : Nat) h)
def hashS (_ : Nat) (z : Int) (h : Int) : Sum Int Int := .inr (bits .and .i64 (IntKind.i64.wrap (IntKind.i64.wrap (IntKind.i64.wrap (h * 137) + IntKind.i64.wrap z) + 11)) 1073741823)
def hashOf (bs : List Int) : Int := loopL hashS id 0 (bs.take 4000) (IntKind.i64.wrap (193017 + ((bs.length : Nat) : Int)))
theorem r_spec_l1New {fl : Bool} (k : Nat) (hk : 281474976710656 + 1 ≤ k) (bs : List Int) (hb : bs.length ≤ 140737488355328) :
    run E noExt k 15 [.sl fl (bs.map byteA)] [] = some (.ptr 0 0, [[.sl fl (bs.map byteA), .int .i64 0, .int .i64 (hashOf bs)]]) := by
  obtain ⟨k, rfl⟩ : ∃ j, k = j + 1 := ⟨k - 1, by omega⟩
  rw [run_succ rfl rfl, body_eq (nt := 32) (fn := Go.Proofs.Try.f15) (by kernel_rfl) rfl rfl rfl rfl rfl rfl rfl rfl]
  simp -implicitDefEqProofs only [W4, ↓D4, ↓DA, ↓DP, ↓DC, Go.Proofs.Try.f15, SH, dedup, nodupB, idx, AV.rows, AV.rowss, AV.mapO, AV.mapOs, Int.reduceToNat, id_eq, Int.reduceBEq, Int.reduceLE, Int.reduceLT, Nat.reduceAdd, Nat.reduceEqDiff, Nat.reduceLT, Nat.reduceLeDiff, Nat.reduceMul, Nat.reduceSub, reduceIte]
  rw [ev_loop]
  have hlen : (bs.take 4000).length = min 4000 bs.length := List.length_take
  refine Eq.trans (loop_list (Q := fun g x => thenEnd E.P _ _ 0 (thenEv E _ _ _ _ _ (outOf 0 x)) = some (.ptr 0 0, [[.sl fl (bs.map byteA), .int .i64 0, .int .i64 g]])) (bs.take 4000) hashS id
    (fun i h => { sl := [(0, .sl fl (bs.map byteA)), (3, .int .i64 h), (4, .int .i64 (i : Nat))], bx := [], nx := 0, nt := 32 }) (fun _ _ => True) (IntKind.i64.wrap (193017 + ((bs.length : Nat) : Int))) ?_ ?_ (by omega) trivial ?_) ?_
  · intro h _
    rcases Nat.lt_or_ge bs.length 4000 with hl | hl
    · have hm : (bs.take 4000).length = bs.length := by omega
      rw [hm]
      have hlt : ¬ ((bs.length : Nat) : Int) < ((bs.length : Nat) : Int) := by omega
      simp -implicitDefEqProofs only [W3, ↓D3, ↓DA, ↓DP, ↓DC, QX, hlt, id_eq, look_cons, reduceCtorEq, evCall, evGive, giveRows, ioBoxes, mutArgs, roArgs, handArg, mutSlots, isPtrB, pairs, pairss, back_nil, back_cons, backO, backE, setBoxes, importB, mode_mut, mode_give, mode_io, mode_ro, List.zip_cons_cons, List.zip_nil_left, List.zip_nil_right, ite_self, ite_true, ite_false, finish_give, finish_mut1, finish_io0, finish_io1, finish_io2, finish_io3, finish_ioc, finI, finC, finW_ptr, SH, leaf_some, isNormal, Int.reduceToNat, Int.reduceBEq, Int.reduceLE, Int.reduceLT, Nat.reduceAdd, Nat.reduceEqDiff, Nat.reduceLT, Nat.reduceLeDiff, Nat.reduceMul, Nat.reduceSub, reduceIte]
      repeat' (split <;> (rename_i h; (try simp -implicitDefEqProofs only [Bool.not_eq_true', Bool.not_eq_false', decide_eq_true_eq, decide_eq_false_iff_not] at h); (try simp -implicitDefEqProofs only [W3, ↓D3, ↓DA, ↓DP, ↓DC, QX, *, hlt, id_eq, look_cons, reduceCtorEq, evCall, evGive, giveRows, ioBoxes, mutArgs, roArgs, handArg, mutSlots, isPtrB, pairs, pairss, back_nil, back_cons, backO, backE, setBoxes, importB, mode_mut, mode_give, mode_io, mode_ro, List.zip_cons_cons, List.zip_nil_left, List.zip_nil_right, ite_self, ite_true, ite_false, finish_give, finish_mut1, finish_io0, finish_io1, finish_io2, finish_io3, finish_ioc, finI, finC, finW_ptr, SH, leaf_some, isNormal, Int.reduceToNat, Int.reduceBEq, Int.reduceLE, Int.reduceLT, Nat.reduceAdd, Nat.reduceEqDiff, Nat.reduceLT, Nat.reduceLeDiff, Nat.reduceMul, Nat.reduceSub, reduceIte])))
      all_goals (rw [finish_give rfl]; simp -implicitDefEqProofs only [W3, ↓D3, ↓DA, ↓DP, ↓DC, finW_ptr, Int.reduceToNat, id_eq, Int.reduceBEq, Int.reduceLE, Int.reduceLT, SH, Nat.reduceAdd, Nat.reduceEqDiff, Nat.reduceLT, Nat.reduceLeDiff, Nat.reduceMul, Nat.reduceSub, reduceIte])
    · have hm : (bs.take 4000).length = 4000 := by omega
      rw [hm]
      have h9 : ¬ ((4000 : Nat) : Int) < 4000 := by omega
      rcases Nat.lt_or_ge 4000 bs.length with hl2 | hl2
      · have hlt : ((4000 : Nat) : Int) < ((bs.length : Nat) : Int) := by omega
        simp -implicitDefEqProofs only [W3, ↓D3, ↓DA, ↓DP, ↓DC, QX, hlt, h9, id_eq, look_cons, reduceCtorEq, evCall, evGive, giveRows, ioBoxes, mutArgs, roArgs, handArg, mutSlots, isPtrB, pairs, pairss, back_nil, back_cons, backO, backE, setBoxes, importB, mode_mut, mode_give, mode_io, mode_ro, List.zip_cons_cons, List.zip_nil_left, List.zip_nil_right, ite_self, ite_true, ite_false, finish_give, finish_mut1, finish_io0, finish_io1, finish_io2, finish_io3, finish_ioc, finI, finC, finW_ptr, SH, leaf_some, isNormal, Int.reduceToNat, Int.reduceBEq, Int.reduceLE, Int.reduceLT, Nat.reduceAdd, Nat.reduceEqDiff, Nat.reduceLT, Nat.reduceLeDiff, Nat.reduceMul, Nat.reduceSub, reduceIte]
        repeat' (split <;> (rename_i h; (try simp -implicitDefEqProofs only [Bool.not_eq_true', Bool.not_eq_false', decide_eq_true_eq, decide_eq_false_iff_not] at h); (try simp -implicitDefEqProofs only [W3, ↓D3, ↓DA, ↓DP, ↓DC, QX, *, hlt, h9, id_eq, look_cons, reduceCtorEq, evCall, evGive, giveRows, ioBoxes, mutArgs, roArgs, handArg, mutSlots, isPtrB, pairs, pairss, back_nil, back_cons, backO, backE, setBoxes, importB, mode_mut, mode_give, mode_io, mode_ro, List.zip_cons_cons, List.zip_nil_left, List.zip_nil_right, ite_self, ite_true, ite_false, finish_give, finish_mut1, finish_io0, finish_io1, finish_io2, finish_io3, finish_ioc, finI, finC, finW_ptr, SH, leaf_some, isNormal, Int.reduceToNat, Int.reduceBEq, Int.reduceLE, Int.reduceLT, Nat.reduceAdd, Nat.reduceEqDiff, Nat.reduceLT, Nat.reduceLeDiff, Nat.reduceMul, Nat.reduceSub, reduceIte])))
        all_goals (rw [finish_give rfl]; simp -implicitDefEqProofs only [W3, ↓D3, ↓DA, ↓DP, ↓DC, finW_ptr, Int.reduceToNat, id_eq, Int.reduceBEq, Int.reduceLE, Int.reduceLT, SH, Nat.reduceAdd, Nat.reduceEqDiff, Nat.reduceLT, Nat.reduceLeDiff, Nat.reduceMul, Nat.reduceSub, reduceIte])
      · have hlt : ¬ ((4000 : Nat) : Int) < ((bs.length : Nat) : Int) := by omega
        simp -implicitDefEqProofs only [W3, ↓D3, ↓DA, ↓DP, ↓DC, QX, hlt, h9, id_eq, look_cons, reduceCtorEq, evCall, evGive, giveRows, ioBoxes, mutArgs, roArgs, handArg, mutSlots, isPtrB, pairs, pairss, back_nil, back_cons, backO, backE, setBoxes, importB, mode_mut, mode_give, mode_io, mode_ro, List.zip_cons_cons, List.zip_nil_left, List.zip_nil_right, ite_self, ite_true, ite_false, finish_give, finish_mut1, finish_io0, finish_io1, finish_io2, finish_io3, finish_ioc, finI, finC, finW_ptr, SH, leaf_some, isNormal, Int.reduceToNat, Int.reduceBEq, Int.reduceLE, Int.reduceLT, Nat.reduceAdd, Nat.reduceEqDiff, Nat.reduceLT, Nat.reduceLeDiff, Nat.reduceMul, Nat.reduceSub, reduceIte]
        repeat' (split <;> (rename_i h; (try simp -implicitDefEqProofs only [Bool.not_eq_true', Bool.not_eq_false', decide_eq_true_eq, decide_eq_false_iff_not] at h); (try simp -implicitDefEqProofs only [W3, ↓D3, ↓DA, ↓DP, ↓DC, QX, *, hlt, h9, id_eq, look_cons, reduceCtorEq, evCall, evGive, giveRows, ioBoxes, mutArgs, roArgs, handArg, mutSlots, isPtrB, pairs, pairss, back_nil, back_cons, backO, backE, setBoxes, importB, mode_mut, mode_give, mode_io, mode_ro, List.zip_cons_cons, List.zip_nil_left, List.zip_nil_right, ite_self, ite_true, ite_false, finish_give, finish_mut1, finish_io0, finish_io1, finish_io2, finish_io3, finish_ioc, finI, finC, finW_ptr, SH, leaf_some, isNormal, Int.reduceToNat, Int.reduceBEq, Int.reduceLE, Int.reduceLT, Nat.reduceAdd, Nat.reduceEqDiff, Nat.reduceLT, Nat.reduceLeDiff, Nat.reduceMul, Nat.reduceSub, reduceIte])))
        all_goals (rw [finish_give rfl]; simp -implicitDefEqProofs only [W3, ↓D3, ↓DA, ↓DP, ↓DC, finW_ptr, Int.reduceToNat, id_eq, Int.reduceBEq, Int.reduceLE, Int.reduceLT, SH, Nat.reduceAdd, Nat.reduceEqDiff, Nat.reduceLT, Nat.reduceLeDiff, Nat.reduceMul, Nat.reduceSub, reduceIte])
  · intro pre z r h hs' _
    have hpl : pre.length < 4000 ∧ pre.length < bs.length := by have := congrArg List.length hs'; simp at this; omega
    have hx : bs[pre.length]? = some z := by
      have h1 : (bs.take 4000)[pre.length]? = some z := by rw [hs']; simp
      rw [List.getElem?_take] at h1
      simpa [hpl.1] using h1
    have hlt : ((pre.length : Nat) : Int) < ((bs.length : Nat) : Int) := by omega
    have hlt2 : ((pre.length : Nat) : Int) < 4000 := by omega
    have hw1 : IntKind.i64.wrap (((pre.length : Nat) : Int) + 1) = ((pre.length + 1 : Nat) : Int) := by rw [IntWalk.i64_in _ (by omega)]; omega
    clear hs'
    simp -implicitDefEqProofs only [W3, ↓D3, ↓DA, ↓DP, ↓DC, QX, hx, hlt, hlt2, hw1, byteA_eq, op_convert, conv_u8, andI, hashS, SH, keep_15_3, leaf_some, isNormal, Int.reduceToNat, id_eq, Int.reduceBEq, Int.reduceLE, Int.reduceLT, Nat.reduceAdd, Nat.reduceEqDiff, Nat.reduceLT, Nat.reduceLeDiff, Nat.reduceMul, Nat.reduceSub, reduceIte]
    repeat' (split <;> (rename_i h; (try simp -implicitDefEqProofs only [Bool.not_eq_true', Bool.not_eq_false', decide_eq_true_eq, decide_eq_false_iff_not] at h); (try simp -implicitDefEqProofs only [W3, ↓D3, ↓DA, ↓DP, ↓DC, QX, *, hx, hlt, hlt2, hw1, byteA_eq, op_convert, conv_u8, andI, hashS, SH, keep_15_3, leaf_some, isNormal, Int.reduceToNat, id_eq, Int.reduceBEq, Int.reduceLE, Int.reduceLT, Nat.reduceAdd, Nat.reduceEqDiff, Nat.reduceLT, Nat.reduceLeDiff, Nat.reduceMul, Nat.reduceSub, reduceIte])))
  · simp -implicitDefEqProofs only [firstRegion]
    rw [keep_15_3]
    simp -implicitDefEqProofs only [W3, ↓D3, ↓DA, ↓DP, ↓DC, Int.reduceToNat, id_eq, Int.reduceBEq, Int.reduceLE, Int.reduceLT, SH, Nat.reduceAdd, Nat.reduceEqDiff, Nat.reduceLT, Nat.reduceLeDiff, Nat.reduceMul, Nat.reduceSub, reduceIte]
  · rfl
section
variable {α : Type} (M : Int → α → α) (W : α → Nat) (T : α → AV)
variable {M W T}
end
section
variable {P : Program} {st : St}
def finCell (P : Program) (md : List Mode) (r : ResultVar) (st : St) : Option AV → Option (AV × List (List AV))
  | some v => if isPtrB v = true then finish P md [r] 1 st else finI st v
  | none => none
theorem finCell_some {md : List Mode} {r : ResultVar} {cs : List AV} : finCell P md r st (some (.agg cs)) = finI st (.agg cs) := rfl
theorem finish_cellM {m : Mode} {md : List Mode} {a t : Nat} (hm : mutSlots 0 (m :: md) = []) : finish P (m :: md) [.cell a t] 1 st = finCell P (m :: md) (.cell a t) st (evLoad P st.box t (st.get a)) := by
  cases h : evLoad P st.box t (st.get a) with
  | none =>
    unfold finish
    simp -implicitDefEqProofs only [resultsOf, resultOf, h, Option.map_none, Option.bind_none]
    rfl
  | some v =>
    unfold finCell
    split
    · rename_i v' hv
      obtain rfl := Option.some.inj hv
      split
      · rfl
      · rename_i hp
        rw [← finI_eq (isPtrB_no (by simpa using hp))]
        unfold finish
        simp -implicitDefEqProofs only [resultsOf, resultOf, h, Option.map_some, Option.bind_some, tupOf, hm]
        rfl
    · rename_i hv
      simp at hv
theorem finish_cell1 {a t : Nat} : finish P [.io] [.cell a t] 1 st = finCell P [.io] (.cell a t) st (evLoad P st.box t (st.get a)) := finish_cellM rfl
theorem finish_cell2 {a t : Nat} : finish P [.io, .ro] [.cell a t] 1 st = finCell P [.io, .ro] (.cell a t) st (evLoad P st.box t (st.get a)) := finish_cellM rfl
end
def tabStep (bs : List Int) (odd : Int) (b : List Bool × Nat × Int) : List Bool × Nat × Int := (b.1 ++ [below1 bs odd b.2.1 b.2.2 == 0], belowI bs odd b.2.1, belowH odd b.2.2)
def tabN (bs : List Int) (odd : Int) (b : List Bool × Nat × Int) : Nat → List Bool × Nat × Int
  | 0 => b
  | n + 1 => tabStep bs odd (tabN bs odd b n)
theorem tabN_len {bs : List Int} {odd : Int} {b : List Bool × Nat × Int} : ∀ n, (tabN bs odd b n).1.length = b.1.length + n
  | 0 => rfl
  | n + 1 => by simp -implicitDefEqProofs only [tabN, tabStep, List.length_append, tabN_len n, List.length_cons, List.length_nil]; omega
def tabD (bs : List Int) (n : Nat) (i : Nat) (h : Int) : Draw (List Bool) := tabN bs (IntKind.i64.wrap (2 + below1 bs 3 i h)) ([], belowI bs 3 i, belowH 3 h) (2 ^ n)
theorem tabD_len {bs : List Int} {n i : Nat} {h : Int} : (tabD bs n i h).1.length = 2 ^ n := by unfold tabD; rw [tabN_len]; simp
theorem pow_small {n : Nat} (h : n ≤ 6) : 2 ^ n ≤ 64 := Nat.pow_le_pow_right (by decide : 1 ≤ 2) h
theorem r_spec_l21Table {fl : Bool} (k : Nat) (hk : 281474976710656 + 5 ≤ k) (bs : List Int) (hb : bs.length ≤ 140737488355328) (n : Nat) (hn : n ≤ 6) (i : Nat) (h : Int) :
    run E noExt k 17 [.ptr 0 0, .int .i64 (n : Nat)] [[.sl fl (bs.map byteA), .int .i64 (i : Nat), .int .i64 h]] = some (.own 0 false 4 1 ((tabD bs n i h).1.map AV.bool), [[.sl fl (bs.map byteA), .int .i64 ((tabD bs n i h).2.1 : Nat), .int .i64 (tabD bs n i h).2.2]]) := by
  have c1 := fun n i h => r_spec_l1Below (fl := fl) (k - 1) (by omega) bs hb n i h
  have c2 := fun n i h => r_spec_l1Once (fl := fl) (k - 1) (by omega) bs hb n i h
  have c3 := r_spec_l21Bit (k - 1) (by omega) n hn
  have hp := pow_small hn
  obtain ⟨k, rfl⟩ : ∃ j, k = j + 1 := ⟨k - 1, by omega⟩
  rw [run_succ rfl rfl, body_eq (nt := 25) (fn := Go.Proofs.Try.f17) (by kernel_rfl) rfl rfl rfl rfl rfl rfl rfl rfl]
  simp -implicitDefEqProofs only [Nat.add_sub_cancel] at c1 c2 c3
  unfold tabD
  generalize ho : IntKind.i64.wrap (2 + below1 bs 3 i h) = odd
  generalize 2 ^ n = m at *
  simp -implicitDefEqProofs only [W3, ↓D3, ↓DA, ↓DP, ↓DC, Go.Proofs.Try.f17, c1, ho, look_nil, evCall_io1, evCall_io2, evCall_io3, evCall_io4, finJ_1, finJ_2, finJ_3, finJ_4, finJ_int, finJ_bool, finJ_str, finJ_nils, finJ_agg, finJ_own, finJ_sl, finJ_tup, look_cons, reduceCtorEq, evCall_mutOwn, evCall_mutAgg, evGive, giveRows, ioBoxes, mutArgs, roArgs, handArg, mutSlots, isPtrB, pairs, pairss, back_nil, back_cons, backO, backE, setBoxes, importB, mode_mut, mode_give, mode_io, mode_ro, List.zip_cons_cons, List.zip_nil_left, List.zip_nil_right, ite_self, ite_true, ite_false, finish_give, finish_mut1, finish_io0, finish_io2, finish_io3, finish_ioc, finI, finC, finW_ptr, SH, Int.reduceToNat, id_eq, Int.reduceBEq, Int.reduceLE, Int.reduceLT, Nat.reduceAdd, Nat.reduceEqDiff, Nat.reduceLT, Nat.reduceLeDiff, Nat.reduceMul, Nat.reduceSub, reduceIte]
  rw [ev_loop]
  refine Eq.trans (loop_list (Q := fun (_ : Unit) x => thenEnd E.P _ _ 1 (thenEv E _ _ _ _ _ (outOf 0 x)) = some (.own 0 false 4 1 ((tabN bs odd ([], belowI bs 3 i, belowH 3 h) m).1.map AV.bool), [[.sl fl (bs.map byteA), .int .i64 ((tabN bs odd ([], belowI bs 3 i, belowH 3 h) m).2.1 : Nat), .int .i64 (tabN bs odd ([], belowI bs 3 i, belowH 3 h) m).2.2]])) (List.range m) (fun _ _ _ => .inr ()) id
    (fun j _ => { sl := [(0, .ptr 0 0), (1, .int .i64 (n : Nat)), (5, .own 0 false 4 1 ((tabN bs odd ([], belowI bs 3 i, belowH 3 h) j).1.map AV.bool)), (6, .int .i64 odd), (7, .int .i64 (j : Nat))], bx := [(0, [.sl fl (bs.map byteA), .int .i64 ((tabN bs odd ([], belowI bs 3 i, belowH 3 h) j).2.1 : Nat), .int .i64 (tabN bs odd ([], belowI bs 3 i, belowH 3 h) j).2.2])], nx := 2, nt := 25 }) (fun _ _ => True) () ?_ ?_ (by simp; omega) trivial ?_) ?_
  · intro _ _
    rw [List.length_range]
    have h0 : ¬ ((m : Nat) : Int) < ((m : Nat) : Int) := by omega
    simp -implicitDefEqProofs only [W3, ↓D3, ↓DA, ↓DP, ↓DC, QX, h0, c3, look_nil, evCall_io1, evCall_io2, evCall_io3, evCall_io4, finJ_1, finJ_2, finJ_3, finJ_4, finJ_int, finJ_bool, finJ_str, finJ_nils, finJ_agg, finJ_own, finJ_sl, finJ_tup, look_cons, reduceCtorEq, evCall_mutOwn, evCall_mutAgg, evGive, giveRows, ioBoxes, mutArgs, roArgs, handArg, mutSlots, isPtrB, pairs, pairss, back_nil, back_cons, backO, backE, setBoxes, importB, mode_mut, mode_give, mode_io, mode_ro, List.zip_cons_cons, List.zip_nil_left, List.zip_nil_right, ite_self, ite_true, ite_false, finish_give, finish_mut1, finish_io0, finish_io2, finish_io3, finish_ioc, finI, finC, finW_ptr, SH, leaf_some, isNormal, Int.reduceToNat, id_eq, Int.reduceBEq, Int.reduceLE, Int.reduceLT, Nat.reduceAdd, Nat.reduceEqDiff, Nat.reduceLT, Nat.reduceLeDiff, Nat.reduceMul, Nat.reduceSub, reduceIte]
    repeat' (split <;> (rename_i h; (try simp -implicitDefEqProofs only [Bool.not_eq_true', Bool.not_eq_false', decide_eq_true_eq, decide_eq_false_iff_not] at h); (try simp -implicitDefEqProofs only [W3, ↓D3, ↓DA, ↓DP, ↓DC, QX, *, h0, c3, look_nil, evCall_io1, evCall_io2, evCall_io3, evCall_io4, finJ_1, finJ_2, finJ_3, finJ_4, finJ_int, finJ_bool, finJ_str, finJ_nils, finJ_agg, finJ_own, finJ_sl, finJ_tup, look_cons, reduceCtorEq, evCall_mutOwn, evCall_mutAgg, evGive, giveRows, ioBoxes, mutArgs, roArgs, handArg, mutSlots, isPtrB, pairs, pairss, back_nil, back_cons, backO, backE, setBoxes, importB, mode_mut, mode_give, mode_io, mode_ro, List.zip_cons_cons, List.zip_nil_left, List.zip_nil_right, ite_self, ite_true, ite_false, finish_give, finish_mut1, finish_io0, finish_io2, finish_io3, finish_ioc, finI, finC, finW_ptr, SH, leaf_some, isNormal, Int.reduceToNat, id_eq, Int.reduceBEq, Int.reduceLE, Int.reduceLT, Nat.reduceAdd, Nat.reduceEqDiff, Nat.reduceLT, Nat.reduceLeDiff, Nat.reduceMul, Nat.reduceSub, reduceIte])))
  · intro pre z r _ hs' _
    have hpl : pre.length < m := by have := congrArg List.length hs'; simp at this; omega
    clear hs'
    have hp0 : ((pre.length : Nat) : Int) < ((m : Nat) : Int) := by omega
    have hw1 : IntKind.i64.wrap (((pre.length : Nat) : Int) + 1) = ((pre.length + 1 : Nat) : Int) := by rw [IntWalk.i64_in _ (by omega)]; omega
    have hln := tabN_len (bs := bs) (odd := odd) (b := ([], belowI bs 3 i, belowH 3 h)) pre.length
    simp -implicitDefEqProofs only [List.length_nil, Nat.zero_add] at hln
    simp -implicitDefEqProofs only [tabN]
    generalize tabN bs odd ([], belowI bs 3 i, belowH 3 h) pre.length = b at *
    obtain ⟨l, i1, h1⟩ := b
    simp only at hln
    have hm1 : (l.length + 1) * 1 ≤ 140737488355328 := by omega
    have hm2 : l.length + 1 ≤ 9223372036854775807 := by omega
    have hpl : ∀ x : Bool, plains [.bool x] = true := fun x => rfl
    have hm9 : l.length ≤ 9223372036854775806 := by omega
    simp -implicitDefEqProofs only [W3, ↓D3, ↓DA, ↓DP, ↓DC, QX, hp0, hw1, c2, c3, hpl, hm9, hm1, hm2, tabStep, List.map_append, look_nil, evCall_io1, evCall_io2, evCall_io3, evCall_io4, finJ_1, finJ_2, finJ_3, finJ_4, finJ_int, finJ_bool, finJ_str, finJ_nils, finJ_agg, finJ_own, finJ_sl, finJ_tup, look_cons, reduceCtorEq, evCall_mutOwn, evCall_mutAgg, evGive, giveRows, ioBoxes, mutArgs, roArgs, handArg, mutSlots, isPtrB, pairs, pairss, back_nil, back_cons, backO, backE, setBoxes, importB, mode_mut, mode_give, mode_io, mode_ro, List.zip_cons_cons, List.zip_nil_left, List.zip_nil_right, ite_self, ite_true, ite_false, finish_give, finish_mut1, finish_io0, finish_io2, finish_io3, finish_ioc, finI, finC, finW_ptr, SH, keep_17_4, leaf_some, isNormal, Int.reduceToNat, id_eq, Int.reduceBEq, Int.reduceLE, Int.reduceLT, Nat.reduceAdd, Nat.reduceEqDiff, Nat.reduceLT, Nat.reduceLeDiff, Nat.reduceMul, Nat.reduceSub, reduceIte]
    repeat' (split <;> (rename_i h; (try simp -implicitDefEqProofs only [Bool.not_eq_true', Bool.not_eq_false', decide_eq_true_eq, decide_eq_false_iff_not] at h); (try simp -implicitDefEqProofs only [W3, ↓D3, ↓DA, ↓DP, ↓DC, QX, *, hp0, hw1, c2, c3, hpl, hm9, hm1, hm2, tabStep, List.map_append, look_nil, evCall_io1, evCall_io2, evCall_io3, evCall_io4, finJ_1, finJ_2, finJ_3, finJ_4, finJ_int, finJ_bool, finJ_str, finJ_nils, finJ_agg, finJ_own, finJ_sl, finJ_tup, look_cons, reduceCtorEq, evCall_mutOwn, evCall_mutAgg, evGive, giveRows, ioBoxes, mutArgs, roArgs, handArg, mutSlots, isPtrB, pairs, pairss, back_nil, back_cons, backO, backE, setBoxes, importB, mode_mut, mode_give, mode_io, mode_ro, List.zip_cons_cons, List.zip_nil_left, List.zip_nil_right, ite_self, ite_true, ite_false, finish_give, finish_mut1, finish_io0, finish_io2, finish_io3, finish_ioc, finI, finC, finW_ptr, SH, keep_17_4, leaf_some, isNormal, Int.reduceToNat, id_eq, Int.reduceBEq, Int.reduceLE, Int.reduceLT, Nat.reduceAdd, Nat.reduceEqDiff, Nat.reduceLT, Nat.reduceLeDiff, Nat.reduceMul, Nat.reduceSub, reduceIte])))
  · simp -implicitDefEqProofs only [firstRegion]
    rw [keep_17_4]
    simp -implicitDefEqProofs only [W3, ↓D3, ↓DA, ↓DP, ↓DC, tabN, Int.reduceToNat, id_eq, Int.reduceBEq, Int.reduceLE, Int.reduceLT, SH, Nat.reduceAdd, Nat.reduceEqDiff, Nat.reduceLT, Nat.reduceLeDiff, Nat.reduceMul, Nat.reduceSub, reduceIte]
  · rfl
noncomputable def diaD (bs : List Int) (i : Nat) (h : Int) : Draw Diagram := (fromTable (below1 bs 5 i h) (tabD bs (below1 bs 5 i h).toNat (belowI bs 5 i) (belowH 5 h)).1, (tabD bs (below1 bs 5 i h).toNat (belowI bs 5 i) (belowH 5 h)).2.1, (tabD bs (below1 bs 5 i h).toNat (belowI bs 5 i) (belowH 5 h)).2.2)
theorem r_spec_l21Diagram {fl : Bool} (k : Nat) (hk : 281474976710656 + 40 ≤ k) (bs : List Int) (hb : bs.length ≤ 140737488355328) (i : Nat) (h : Int) :
    run E noExt k 34 [.ptr 0 0] [[.sl fl (bs.map byteA), .int .i64 (i : Nat), .int .i64 h]] = some ((diaD bs i h).1.encN, [[.sl fl (bs.map byteA), .int .i64 ((diaD bs i h).2.1 : Nat), .int .i64 (diaD bs i h).2.2]]) := by
  have c1 := fun n i h => r_spec_l1Below (fl := fl) (k - 1) (by omega) bs hb n i h
  have c2 := fun n hn i h => r_spec_l21Table (fl := fl) (k - 1) (by omega) bs hb n hn i h
  have hlt := below_lt bs (n := 5) (by omega) (by omega) i h
  unfold diaD
  have hd0 : ∃ m : Nat, below1 bs 5 i h = (m : Int) := ⟨(below1 bs 5 i h).toNat, by omega⟩
  obtain ⟨m, hd⟩ := hd0
  have hm : m ≤ 6 := by omega
  have hl := tabD_len (bs := bs) (n := m) (i := belowI bs 5 i) (h := belowH 5 h)
  have c3 := r_spec_FromTable (fl := true) (k - 1) (by omega) (m : Nat) (tabD bs m (belowI bs 5 i) (belowH 5 h)).1 (by have := pow_small hm; omega)
  have c4 := c2 m hm
  simp -implicitDefEqProofs only [hd, Int.toNat_natCast]
  obtain ⟨k, rfl⟩ : ∃ j, k = j + 1 := ⟨k - 1, by omega⟩
  rw [run_succ rfl rfl, body_eq (nt := 17) (fn := Go.Proofs.Try.f34) (by kernel_rfl) rfl rfl rfl rfl rfl rfl rfl rfl]
  simp -implicitDefEqProofs only [Nat.add_sub_cancel] at c1 c3 c4
  have c5 := c4 (belowI bs 5 i) (belowH 5 h)
  generalize tabD bs m (belowI bs 5 i) (belowH 5 h) = t at *
  generalize fromTable ((m : Nat) : Int) t.1 = d at *
  unfold Diagram.encN at c3 ⊢
  rcases Classical.em (d.nodes = []) with e | e
  · rw [e, encR_nil] at c3 ⊢
    simp -implicitDefEqProofs only [W3, ↓D3, ↓DA, ↓DP, ↓DC, finish_cell1, finish_cell2, finCell_some, Go.Proofs.Try.f34, c1, hd, c3, c5, scals_bools2, plains_bools2, look_nil, evCall_io1, evCall_io2, evCall_io3, evCall_io4, finJ_1, finJ_2, finJ_3, finJ_4, finJ_int, finJ_bool, finJ_str, finJ_nils, finJ_agg, finJ_own, finJ_sl, finJ_tup, look_cons, reduceCtorEq, evCall_mutOwn, evCall_mutAgg, evGive, giveRows, ioBoxes, mutArgs, roArgs, handArg, mutSlots, isPtrB, pairs, pairss, back_nil, back_cons, backO, backE, setBoxes, importB, mode_mut, mode_give, mode_io, mode_ro, List.zip_cons_cons, List.zip_nil_left, List.zip_nil_right, ite_self, ite_true, ite_false, finish_give, finish_mut1, finish_io0, finish_io2, finish_io3, finish_ioc, finI, finC, finW_ptr, SH, Int.reduceToNat, id_eq, Int.reduceBEq, Int.reduceLE, Int.reduceLT, Nat.reduceAdd, Nat.reduceEqDiff, Nat.reduceLT, Nat.reduceLeDiff, Nat.reduceMul, Nat.reduceSub, reduceIte]
  · rw [encR_ne e] at c3 ⊢
    simp -implicitDefEqProofs only [W3, ↓D3, ↓DA, ↓DP, ↓DC, finish_cell1, finish_cell2, finCell_some, Go.Proofs.Try.f34, c1, hd, c3, c5, scals_bools2, plains_bools2, scals_Choice, look_nil, evCall_io1, evCall_io2, evCall_io3, evCall_io4, finJ_1, finJ_2, finJ_3, finJ_4, finJ_int, finJ_bool, finJ_str, finJ_nils, finJ_agg, finJ_own, finJ_sl, finJ_tup, look_cons, reduceCtorEq, evCall_mutOwn, evCall_mutAgg, evGive, giveRows, ioBoxes, mutArgs, roArgs, handArg, mutSlots, isPtrB, pairs, pairss, back_nil, back_cons, backO, backE, setBoxes, importB, mode_mut, mode_give, mode_io, mode_ro, List.zip_cons_cons, List.zip_nil_left, List.zip_nil_right, ite_self, ite_true, ite_false, finish_give, finish_mut1, finish_io0, finish_io2, finish_io3, finish_ioc, finI, finC, finW_ptr, SH, Int.reduceToNat, id_eq, Int.reduceBEq, Int.reduceLE, Int.reduceLT, Nat.reduceAdd, Nat.reduceEqDiff, Nat.reduceLT, Nat.reduceLeDiff, Nat.reduceMul, Nat.reduceSub, reduceIte]
noncomputable def turnD (bs : List Int) (d : Diagram) (i : Nat) (h : Int) : Bool → Bool → Bool → Draw Diagram
  | true, _, _ => ({ d with root := oneOf bs [-3, -2, -1, 0, 9] i h }, (oneD bs [-3, -2, -1, 0, 9] i h).2)
  | false, true, _ => ({ d with nodes := d.nodes ++ [⟨below1 bs 4 i h, oneOf bs [-3, -2, -1, 0] (belowI bs 4 i) (belowH 4 h), oneOf bs [-1, 0, 5] (oneD bs [-3, -2, -1, 0] (belowI bs 4 i) (belowH 4 h)).2.1 (oneD bs [-3, -2, -1, 0] (belowI bs 4 i) (belowH 4 h)).2.2⟩] }, (oneD bs [-1, 0, 5] (oneD bs [-3, -2, -1, 0] (belowI bs 4 i) (belowH 4 h)).2.1 (oneD bs [-3, -2, -1, 0] (belowI bs 4 i) (belowH 4 h)).2.2).2)
  | false, false, true => ({ d with atoms := oneOf bs [-1, 1, 6, 7] i h }, (oneD bs [-1, 1, 6, 7] i h).2)
  | false, false, false => (d, i, h)
noncomputable def anyDia (bs : List Int) (i : Nat) (h : Int) : Draw Diagram :=
  turnD bs (diaD bs i h).1 (belowI bs 8 (diaD bs i h).2.1) (belowH 8 (diaD bs i h).2.2) (below1 bs 8 (diaD bs i h).2.1 (diaD bs i h).2.2 == 0) (below1 bs 8 (diaD bs i h).2.1 (diaD bs i h).2.2 == 1) (below1 bs 8 (diaD bs i h).2.1 (diaD bs i h).2.2 == 2)
theorem anyDia_len {bs : List Int} {i : Nat} {h : Int} : (anyDia bs i h).1.nodes.length ≤ 64 := by
  have h0 : (diaD bs i h).1.nodes.length ≤ 63 := fromTable_len _ _
  unfold anyDia
  generalize (below1 bs 8 (diaD bs i h).2.1 (diaD bs i h).2.2 == 0) = x
  generalize (below1 bs 8 (diaD bs i h).2.1 (diaD bs i h).2.2 == 1) = y
  generalize (below1 bs 8 (diaD bs i h).2.1 (diaD bs i h).2.2 == 2) = z
  cases x <;> cases y <;> cases z <;> simp -implicitDefEqProofs only [turnD, List.length_append, List.length_cons, List.length_nil] <;> omega
set_option maxHeartbeats 4000000 in
theorem r_spec_l21Any {fl : Bool} (k : Nat) (hk : 281474976710656 + 41 ≤ k) (bs : List Int) (hb : bs.length ≤ 140737488355328) (i : Nat) (h : Int) :
    run E noExt k 24 [.ptr 0 0] [[.sl fl (bs.map byteA), .int .i64 (i : Nat), .int .i64 h]] = some ((anyDia bs i h).1.encN, [[.sl fl (bs.map byteA), .int .i64 ((anyDia bs i h).2.1 : Nat), .int .i64 (anyDia bs i h).2.2]]) := by
  have c1 := fun n i h => r_spec_l1Below (fl := fl) (k - 1) (by omega) bs hb n i h
  have c2 := r_spec_l21Diagram (fl := fl) (k - 1) (by omega) bs hb i h
  have c3 := fun i h => r_spec_l1Int (fl := fl) (k - 1) (by omega) bs hb [-3, -2, -1, 0, 9] (by decide) i h
  have c4 := fun i h => r_spec_l1Int (fl := fl) (k - 1) (by omega) bs hb [-3, -2, -1, 0] (by decide) i h
  have c5 := fun i h => r_spec_l1Int (fl := fl) (k - 1) (by omega) bs hb [-1, 0, 5] (by decide) i h
  have c6 := fun i h => r_spec_l1Int (fl := fl) (k - 1) (by omega) bs hb [-1, 1, 6, 7] (by decide) i h
  have hl0 : (diaD bs i h).1.nodes.length ≤ 63 := fromTable_len _ _
  obtain ⟨k, rfl⟩ : ∃ j, k = j + 1 := ⟨k - 1, by omega⟩
  rw [run_succ rfl rfl, body_eq (nt := 37) (fn := Go.Proofs.Try.f24) (by kernel_rfl) rfl rfl rfl rfl rfl rfl rfl rfl]
  simp -implicitDefEqProofs only [Nat.add_sub_cancel, List.map_cons, List.map_nil, List.length_cons, List.length_nil, Nat.zero_add, Nat.reduceAdd] at c1 c2 c3 c4 c5 c6
  unfold anyDia
  generalize diaD bs i h = D at *
  obtain ⟨d, i1, h1⟩ := D
  simp only at c2 hl0 ⊢
  generalize hd : below1 bs 8 i1 h1 = r at *
  have hm1 : (d.nodes.length + 1) * 24 ≤ 140737488355328 := by omega
  have hm2 : d.nodes.length + 1 ≤ 9223372036854775807 := by omega
  have hm9 : d.nodes.length ≤ 9223372036854775806 := by omega
  unfold Diagram.encN at c2 ⊢
  have hpl : ∀ x y z : Int, plains [.agg [.int .i64 x, .int .i64 y, .int .i64 z]] = true := fun _ _ _ => rfl
  rcases Classical.em (d.nodes = []) with e | e
  · rw [e, encR_nil] at c2
    cases he : bs.isEmpty
    all_goals
      cases e0 : (r == 0)
      all_goals
        cases e1 : (r == 1)
        all_goals
          cases e2 : (r == 2)
          all_goals
            simp -implicitDefEqProofs only [W3, ↓D3, ↓DA, opQ_buildSlice2, hpl, e, e0, e1, e2, encR_nil, encR_one, ↓ref_bytes, he, turnD, oneD, finish_cell1, finish_cell2, finCell_some, Go.Proofs.Try.f24, c1, c2, c3, c4, c5, c6, hd, enc_Choice, opS_store, slidP_ptr, opS_call, slidM_io1, slidM_io2, away_F, away_ptr, away_int, away_bool, away_nils, away_undef, away_sl, away_agg, away_own, plan_24_6, look_nil, evCall_io1, evCall_io2, evCall_io3, evCall_io4, finJ_1, finJ_2, finJ_3, finJ_4, finJ_int, finJ_bool, finJ_str, finJ_nils, finJ_agg, finJ_own, finJ_sl, finJ_tup, look_cons, reduceCtorEq, evCall_mutOwn, evCall_mutAgg, evGive, giveRows, ioBoxes, mutArgs, roArgs, handArg, mutSlots, isPtrB, pairs, pairss, back_nil, back_cons, backO, backE, setBoxes, importB, mode_mut, mode_give, mode_io, mode_ro, List.zip_cons_cons, List.zip_nil_left, List.zip_nil_right, ite_self, ite_true, ite_false, finish_give, finish_mut1, finish_io0, finish_io2, finish_io3, finish_ioc, finI, finC, finW_ptr, SH, noref, isRef, isPtr, noPtr, isBad, AV.isUndef, Int.reduceToNat, id_eq, Int.reduceBEq, Int.reduceLE, Int.reduceLT, AV.cells, AV.isCell, Value.cells, Nat.reduceAdd, Nat.reduceEqDiff, Nat.reduceLT, Nat.reduceLeDiff, Nat.reduceMul, Nat.reduceSub, reduceIte]
  · rw [encR_ne e] at c2
    have hE : ∀ id, encR id d.nodes = .own id false 49 3 (d.nodes.map (Choice.enc true)) := fun id => encR_ne e
    have hE2 : ∀ id x, encR id (d.nodes ++ [x]) = .own id false 49 3 ((d.nodes ++ [x]).map (Choice.enc true)) := fun id x => encR_ne (by simp)
    cases he : bs.isEmpty
    all_goals
      cases e0 : (r == 0)
      all_goals
        cases e1 : (r == 1)
        all_goals
          cases e2 : (r == 2)
          all_goals
            simp -implicitDefEqProofs only [W3, ↓D3, ↓DA, opQ_buildSlice2, hE, hE2, hpl, hm1, hm2, hm9, scals_Choice, List.map_append, e0, e1, e2, ↓ref_bytes, he, turnD, oneD, finish_cell1, finish_cell2, finCell_some, Go.Proofs.Try.f24, c1, c2, c3, c4, c5, c6, hd, enc_Choice, opS_store, slidP_ptr, opS_call, slidM_io1, slidM_io2, away_F, away_ptr, away_int, away_bool, away_nils, away_undef, away_sl, away_agg, away_own, plan_24_6, look_nil, evCall_io1, evCall_io2, evCall_io3, evCall_io4, finJ_1, finJ_2, finJ_3, finJ_4, finJ_int, finJ_bool, finJ_str, finJ_nils, finJ_agg, finJ_own, finJ_sl, finJ_tup, look_cons, reduceCtorEq, evCall_mutOwn, evCall_mutAgg, evGive, giveRows, ioBoxes, mutArgs, roArgs, handArg, mutSlots, isPtrB, pairs, pairss, back_nil, back_cons, backO, backE, setBoxes, importB, mode_mut, mode_give, mode_io, mode_ro, List.zip_cons_cons, List.zip_nil_left, List.zip_nil_right, ite_self, ite_true, ite_false, finish_give, finish_mut1, finish_io0, finish_io2, finish_io3, finish_ioc, finI, finC, finW_ptr, SH, noref, isRef, isPtr, noPtr, isBad, AV.isUndef, Int.reduceToNat, id_eq, Int.reduceBEq, Int.reduceLE, Int.reduceLT, AV.cells, AV.isCell, Value.cells, Nat.reduceAdd, Nat.reduceEqDiff, Nat.reduceLT, Nat.reduceLeDiff, Nat.reduceMul, Nat.reduceSub, reduceIte]
            try trace_state
section
variable {P : Program} {st : St}
theorem resultsOf_two {r s : ResultVar} {rs : List ResultVar} {vs : List AV} (h : resultsOf P st (r :: s :: rs) = some vs) : ∃ v u us, vs = v :: u :: us := by
  simp -implicitDefEqProofs only [resultsOf] at h
  obtain ⟨v, _, h⟩ := Option.bind_eq_some_iff.1 h
  obtain ⟨ws, h1, rfl⟩ := Option.map_eq_some_iff.1 h
  obtain ⟨u, _, h1⟩ := Option.bind_eq_some_iff.1 h1
  obtain ⟨us, _, rfl⟩ := Option.map_eq_some_iff.1 h1
  exact ⟨v, u, us, rfl⟩
theorem finish_many0 {r s : ResultVar} {rs : List ResultVar} : finish P [] (r :: s :: rs) 0 st = (resultsOf P st (r :: s :: rs)).bind fun vs => finV (.tup vs) := by
  cases h : resultsOf P st (r :: s :: rs) with
  | none => unfold finish; simp -implicitDefEqProofs only [h]; rfl
  | some vs =>
    obtain ⟨v, u, us, rfl⟩ := resultsOf_two h
    simp -implicitDefEqProofs only [Option.bind_some]
    have := finW_eq (st := st) (v := .tup (v :: u :: us))
    unfold finish
    simp -implicitDefEqProofs only [h, Option.bind_some]
    exact this
end
end Go.Proofs.Ytclpcglblcmcoaa.Flat
