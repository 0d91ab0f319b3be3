/-
The draws: numbers.
-/
import Derived.Test.YtggkeechdakccaaEqDR
import Derived.Test.YtggkeechdakccaaEqU
set_option linter.unusedVariables false
set_option linter.unusedSimpArgs false
set_option maxRecDepth 10000
namespace Go.Proofs.Ytggkeechdakccaa.Flat
theorem below_lt (bs : List Int) {n : Int} (h0 : 0 < n) (h1 : n ≤ 256) (i : Nat) (h : Int) : 0 ≤ below1 bs n i h ∧ below1 bs n i h < n := by
  have hb := byteAt_le bs i h
  unfold below1
  rw [if_neg (by omega), if_pos h1]
  exact ⟨Int.tmod_nonneg _ hb.1, Int.tmod_lt_of_pos _ h0⟩
theorem r_spec_l1Once {fl : Bool} (k : Nat) (hk : 281474976710656 + 3 ≤ k) (bs : List Int) (hb : bs.length ≤ 140737488355328) (n : Int) (i : Nat) (h : Int) :
    run E noExt k 16 [.ptr 0 0, .int .i64 n] [[.sl fl (bs.map byteA), .int .i64 (i : Nat), .int .i64 h]] = some (.bool (below1 bs n i h == 0), [[.sl fl (bs.map byteA), .int .i64 (belowI bs n i : Nat), .int .i64 (belowH n h)]]) := by
  have c1 := fun n i h => r_spec_l1Below (fl := fl) (k - 1) (by omega) bs hb n i h
  obtain ⟨k, rfl⟩ : ∃ j, k = j + 1 := ⟨k - 1, by omega⟩
  rw [run_succ rfl rfl, body_eq (nt := 9) (fn := Go.Proofs.Try.f16) (by kernel_rfl) rfl rfl rfl rfl rfl rfl rfl rfl]
  simp -implicitDefEqProofs only [Nat.add_sub_cancel] at c1
  simp -implicitDefEqProofs only [W3, ↓D3, ↓DA, ↓DP, ↓DC, Go.Proofs.Try.f16, c1, look_nil, evCall_io1, evCall_io2, evCall_io3, evCall_io4, finJ_1, finJ_2, finJ_3, finJ_4, finJ_int, finJ_bool, finJ_str, finJ_nils, finJ_agg, finJ_own, finJ_sl, finJ_tup, look_cons, reduceCtorEq, evCall_mutOwn, evCall_mutAgg, evGive, giveRows, ioBoxes, mutArgs, roArgs, handArg, mutSlots, isPtrB, pairs, pairss, back_nil, back_cons, backO, backE, setBoxes, importB, mode_mut, mode_give, mode_io, mode_ro, List.zip_cons_cons, List.zip_nil_left, List.zip_nil_right, ite_self, ite_true, ite_false, finish_give, finish_mut1, finish_io0, finish_io2, finish_io3, finish_ioc, finI, finC, finW_ptr, SH, Int.reduceToNat, id_eq, Int.reduceBEq, Int.reduceLE, Int.reduceLT, Nat.reduceAdd, Nat.reduceEqDiff, Nat.reduceLT, Nat.reduceLeDiff, Nat.reduceMul, Nat.reduceSub, reduceIte]
def oneOf (bs : List Int) (l : List Int) (i : Nat) (h : Int) : Int := l.getD (below1 bs (l.length : Nat) i h).toNat 0
theorem r_spec_l1Int {fl : Bool} (k : Nat) (hk : 281474976710656 + 3 ≤ k) (bs : List Int) (hb : bs.length ≤ 140737488355328) (l : List Int) (hl : 0 < l.length ∧ l.length ≤ 256) (i : Nat) (h : Int) :
    run E noExt k 37 [.ptr 0 0, .sl true (l.map (.int .i64))] [[.sl fl (bs.map byteA), .int .i64 (i : Nat), .int .i64 h]] = some (.int .i64 (oneOf bs l i h), [[.sl fl (bs.map byteA), .int .i64 (belowI bs (l.length : Nat) i : Nat), .int .i64 (belowH (l.length : Nat) h)]]) := by
  have c1 := fun n i h => r_spec_l1Below (fl := fl) (k - 1) (by omega) bs hb n i h
  have hlt := below_lt bs (n := ((l.length : Nat) : Int)) (by omega) (by omega) i h
  obtain ⟨k, rfl⟩ : ∃ j, k = j + 1 := ⟨k - 1, by omega⟩
  rw [run_succ rfl rfl, body_eq (nt := 12) (fn := Go.Proofs.Try.f37) (by kernel_rfl) rfl rfl rfl rfl rfl rfl rfl rfl]
  simp -implicitDefEqProofs only [Nat.add_sub_cancel] at c1
  unfold oneOf
  generalize hd : below1 bs ((l.length : Nat) : Int) i h = d at *
  obtain ⟨m, rfl⟩ : ∃ m : Nat, d = (m : Int) := ⟨d.toNat, by omega⟩
  have hm : m < l.length := by omega
  have hx : l[m]? = some l[m] := List.getElem?_eq_getElem hm
  have hx2 : l.getD m 0 = l[m] := by rw [List.getD_eq_getElem?_getD, hx]; rfl
  have hlt2 : ((m : Nat) : Int) < ((l.length : Nat) : Int) := by omega
  simp -implicitDefEqProofs only [W3, ↓D3, ↓DA, ↓DP, ↓DC, Go.Proofs.Try.f37, c1, hd, hx, hx2, hlt2, hm, look_nil, evCall_io1, evCall_io2, evCall_io3, evCall_io4, finJ_1, finJ_2, finJ_3, finJ_4, finJ_int, finJ_bool, finJ_str, finJ_nils, finJ_agg, finJ_own, finJ_sl, finJ_tup, look_cons, reduceCtorEq, evCall_mutOwn, evCall_mutAgg, evGive, giveRows, ioBoxes, mutArgs, roArgs, handArg, mutSlots, isPtrB, pairs, pairss, back_nil, back_cons, backO, backE, setBoxes, importB, mode_mut, mode_give, mode_io, mode_ro, List.zip_cons_cons, List.zip_nil_left, List.zip_nil_right, ite_self, ite_true, ite_false, finish_give, finish_mut1, finish_io0, finish_io2, finish_io3, finish_ioc, finI, finC, finW_ptr, SH, Int.reduceToNat, id_eq, Int.reduceBEq, Int.reduceLE, Int.reduceLT, Nat.reduceAdd, Nat.reduceEqDiff, Nat.reduceLT, Nat.reduceLeDiff, Nat.reduceMul, Nat.reduceSub, reduceIte]
theorem ref_bytes {fl : Bool} {bs : List Int} : isRef (.sl fl (bs.map byteA)) = !bs.isEmpty := by cases bs <;> rfl
abbrev Draw (α : Type) := α × Nat × Int
def belowD (bs : List Int) (n : Int) (i : Nat) (h : Int) : Draw Int := (below1 bs n i h, belowI bs n i, belowH n h)
def oneD (bs : List Int) (l : List Int) (i : Nat) (h : Int) : Draw Int := (oneOf bs l i h, belowI bs (l.length : Nat) i, belowH (l.length : Nat) h)
def timeD (bs : List Int) (i : Nat) (h : Int) : Draw Int := match below1 bs 8 i h == 0 with
  | true => oneD bs [-1, 0, 10000, 10001, 9223372036854775807, -9223372036854775808] (belowI bs 8 i) (belowH 8 h)
  | false => belowD bs 40 (belowI bs 8 i) (belowH 8 h)
theorem r_spec_l4Time {fl : Bool} (k : Nat) (hk : 281474976710656 + 4 ≤ k) (bs : List Int) (hb : bs.length ≤ 140737488355328) (i : Nat) (h : Int) :
    run E noExt k 26 [.ptr 0 0] [[.sl fl (bs.map byteA), .int .i64 (i : Nat), .int .i64 h]] = some (.int .i64 (timeD bs i h).1, [[.sl fl (bs.map byteA), .int .i64 ((timeD bs i h).2.1 : Nat), .int .i64 (timeD bs i h).2.2]]) := by
  have c1 := fun n i h => r_spec_l1Below (fl := fl) (k - 1) (by omega) bs hb n i h
  have c2 := fun n i h => r_spec_l1Once (fl := fl) (k - 1) (by omega) bs hb n i h
  have c3 := fun i h => r_spec_l1Int (fl := fl) (k - 1) (by omega) bs hb [-1, 0, 10000, 10001, 9223372036854775807, -9223372036854775808] (by decide) i h
  obtain ⟨k, rfl⟩ : ∃ j, k = j + 1 := ⟨k - 1, by omega⟩
  rw [run_succ rfl rfl, body_eq (nt := 10) (fn := Go.Proofs.Try.f26) (by kernel_rfl) rfl rfl rfl rfl rfl rfl rfl rfl]
  simp -implicitDefEqProofs only [Nat.add_sub_cancel, List.map_cons, List.map_nil, List.length_cons, List.length_nil] at c1 c2 c3
  cases he : bs.isEmpty <;> cases hd : below1 bs 8 i h == 0
  all_goals
    simp -implicitDefEqProofs only [W3, ↓D3, ↓DA, ↓ref_bytes, he, timeD, oneD, belowD, Go.Proofs.Try.f26, c1, c2, c3, hd, look_nil, evCall_io1, evCall_io2, evCall_io3, evCall_io4, finJ_1, finJ_2, finJ_3, finJ_4, finJ_int, finJ_bool, finJ_str, finJ_nils, finJ_agg, finJ_own, finJ_sl, finJ_tup, look_cons, reduceCtorEq, evCall_mutOwn, evCall_mutAgg, evGive, giveRows, ioBoxes, mutArgs, roArgs, handArg, mutSlots, isPtrB, pairs, pairss, back_nil, back_cons, backO, backE, setBoxes, importB, mode_mut, mode_give, mode_io, mode_ro, List.zip_cons_cons, List.zip_nil_left, List.zip_nil_right, ite_self, ite_true, ite_false, finish_give, finish_mut1, finish_io0, finish_io2, finish_io3, finish_ioc, finI, finC, finW_ptr, SH, noref, isRef, isPtr, noPtr, isBad, AV.isUndef, Int.reduceToNat, id_eq, Int.reduceBEq, Int.reduceLE, Int.reduceLT, AV.cells, AV.isCell, Value.cells, Nat.reduceAdd, Nat.reduceEqDiff, Nat.reduceLT, Nat.reduceLeDiff, Nat.reduceMul, Nat.reduceSub, reduceIte]
def nameD (bs : List Int) (kind : Int) (i : Nat) (h : Int) : Draw Int := (IntKind.i64.wrap (IntKind.i64.wrap (kind * 10) + below1 bs 3 i h), belowI bs 3 i, belowH 3 h)
theorem r_spec_l5Name {fl : Bool} (k : Nat) (hk : 281474976710656 + 4 ≤ k) (bs : List Int) (hb : bs.length ≤ 140737488355328) (kind : Int) (i : Nat) (h : Int) :
    run E noExt k 50 [.ptr 0 0, .int .i64 kind] [[.sl fl (bs.map byteA), .int .i64 (i : Nat), .int .i64 h]] = some (.int .i64 (nameD bs kind i h).1, [[.sl fl (bs.map byteA), .int .i64 ((nameD bs kind i h).2.1 : Nat), .int .i64 (nameD bs kind i h).2.2]]) := by
  have c1 := fun n i h => r_spec_l1Below (fl := fl) (k - 1) (by omega) bs hb n i h
  obtain ⟨k, rfl⟩ : ∃ j, k = j + 1 := ⟨k - 1, by omega⟩
  rw [run_succ rfl rfl, body_eq (nt := 10) (fn := Go.Proofs.Try.f50) (by kernel_rfl) rfl rfl rfl rfl rfl rfl rfl rfl]
  simp -implicitDefEqProofs only [Nat.add_sub_cancel] at c1
  simp -implicitDefEqProofs only [W3, ↓D3, ↓DA, ↓DP, ↓DC, nameD, Go.Proofs.Try.f50, c1, bne, look_nil, evCall_io1, evCall_io2, evCall_io3, evCall_io4, finJ_1, finJ_2, finJ_3, finJ_4, finJ_int, finJ_bool, finJ_str, finJ_nils, finJ_agg, finJ_own, finJ_sl, finJ_tup, look_cons, reduceCtorEq, evCall_mutOwn, evCall_mutAgg, evGive, giveRows, ioBoxes, mutArgs, roArgs, handArg, mutSlots, isPtrB, pairs, pairss, back_nil, back_cons, backO, backE, setBoxes, importB, mode_mut, mode_give, mode_io, mode_ro, List.zip_cons_cons, List.zip_nil_left, List.zip_nil_right, ite_self, ite_true, ite_false, finish_give, finish_mut1, finish_io0, finish_io2, finish_io3, finish_ioc, finI, finC, finW_ptr, SH, Int.reduceToNat, id_eq, Int.reduceBEq, Int.reduceLE, Int.reduceLT, Nat.reduceAdd, Nat.reduceEqDiff, Nat.reduceLT, Nat.reduceLeDiff, Nat.reduceMul, Nat.reduceSub, reduceIte]
def anyNameD (bs : List Int) (i : Nat) (h : Int) : Draw Int := match below1 bs 6 i h == 0 with
  | true => oneD bs [-1, 9, 10, 49, 50, 19] (belowI bs 6 i) (belowH 6 h)
  | false => nameD bs (IntKind.i64.wrap (1 + below1 bs 4 (belowI bs 6 i) (belowH 6 h))) (belowI bs 4 (belowI bs 6 i)) (belowH 4 (belowH 6 h))
theorem r_spec_l5Any {fl : Bool} (k : Nat) (hk : 281474976710656 + 5 ≤ k) (bs : List Int) (hb : bs.length ≤ 140737488355328) (i : Nat) (h : Int) :
    run E noExt k 39 [.ptr 0 0] [[.sl fl (bs.map byteA), .int .i64 (i : Nat), .int .i64 h]] = some (.int .i64 (anyNameD bs i h).1, [[.sl fl (bs.map byteA), .int .i64 ((anyNameD bs i h).2.1 : Nat), .int .i64 (anyNameD bs i h).2.2]]) := by
  have c1 := fun n i h => r_spec_l1Below (fl := fl) (k - 1) (by omega) bs hb n i h
  have c2 := fun n i h => r_spec_l1Once (fl := fl) (k - 1) (by omega) bs hb n i h
  have c3 := fun i h => r_spec_l1Int (fl := fl) (k - 1) (by omega) bs hb [-1, 9, 10, 49, 50, 19] (by decide) i h
  have c4 := fun n i h => r_spec_l5Name (fl := fl) (k - 1) (by omega) bs hb n i h
  obtain ⟨k, rfl⟩ : ∃ j, k = j + 1 := ⟨k - 1, by omega⟩
  rw [run_succ rfl rfl, body_eq (nt := 13) (fn := Go.Proofs.Try.f39) (by kernel_rfl) rfl rfl rfl rfl rfl rfl rfl rfl]
  simp -implicitDefEqProofs only [Nat.add_sub_cancel, List.map_cons, List.map_nil, List.length_cons, List.length_nil] at c1 c2 c3 c4
  cases he : bs.isEmpty <;> cases hd : below1 bs 6 i h == 0
  all_goals
    simp -implicitDefEqProofs only [W3, ↓D3, ↓DA, ↓ref_bytes, he, anyNameD, oneD, Go.Proofs.Try.f39, c1, c2, c3, c4, hd, bne, look_nil, evCall_io1, evCall_io2, evCall_io3, evCall_io4, finJ_1, finJ_2, finJ_3, finJ_4, finJ_int, finJ_bool, finJ_str, finJ_nils, finJ_agg, finJ_own, finJ_sl, finJ_tup, look_cons, reduceCtorEq, evCall_mutOwn, evCall_mutAgg, evGive, giveRows, ioBoxes, mutArgs, roArgs, handArg, mutSlots, isPtrB, pairs, pairss, back_nil, back_cons, backO, backE, setBoxes, importB, mode_mut, mode_give, mode_io, mode_ro, List.zip_cons_cons, List.zip_nil_left, List.zip_nil_right, ite_self, ite_true, ite_false, finish_give, finish_mut1, finish_io0, finish_io2, finish_io3, finish_ioc, finI, finC, finW_ptr, SH, noref, isRef, isPtr, noPtr, isBad, AV.isUndef, Int.reduceToNat, id_eq, Int.reduceBEq, Int.reduceLE, Int.reduceLT, AV.cells, AV.isCell, Value.cells, Nat.reduceAdd, Nat.reduceEqDiff, Nat.reduceLT, Nat.reduceLeDiff, Nat.reduceMul, Nat.reduceSub, reduceIte]
section
variable {P : Program} {st : St}
theorem resultsOf_two {r s : ResultVar} {rs : List ResultVar} {vs : List AV} (h : resultsOf P st (r :: s :: rs) = some vs) : ∃ v u us, vs = v :: u :: us := by
  simp -implicitDefEqProofs only [resultsOf] at h
  obtain ⟨v, _, h⟩ := Option.bind_eq_some_iff.1 h
  obtain ⟨ws, h1, rfl⟩ := Option.map_eq_some_iff.1 h
  obtain ⟨u, _, h1⟩ := Option.bind_eq_some_iff.1 h1
  obtain ⟨us, _, rfl⟩ := Option.map_eq_some_iff.1 h1
  exact ⟨v, u, us, rfl⟩
theorem finish_many0 {r s : ResultVar} {rs : List ResultVar} : finish P [] (r :: s :: rs) 0 st = (resultsOf P st (r :: s :: rs)).bind fun vs => finV (.tup vs) := by
  cases h : resultsOf P st (r :: s :: rs) with
  | none => unfold finish; simp -implicitDefEqProofs only [h]; rfl
  | some vs =>
    obtain ⟨v, u, us, rfl⟩ := resultsOf_two h
    simp -implicitDefEqProofs only [Option.bind_some]
    have := finW_eq (st := st) (v := .tup (v :: u :: us))
    unfold finish
    simp -implicitDefEqProofs only [h, Option.bind_some]
    exact this
theorem finish_many1 {m : Mode} {md : List Mode} {r s : ResultVar} {rs : List ResultVar} (hm : mutSlots 0 (m :: md) = []) : finish P (m :: md) (r :: s :: rs) 1 st = (resultsOf P st (r :: s :: rs)).bind fun vs => finI st (.tup vs) := by
  cases h : resultsOf P st (r :: s :: rs) with
  | none => unfold finish; simp -implicitDefEqProofs only [h]; rfl
  | some vs =>
    obtain ⟨v, u, us, rfl⟩ := resultsOf_two h
    simp -implicitDefEqProofs only [Option.bind_some]
    rw [← finI_eq (fun _ _ => by simp)]
    unfold finish
    simp -implicitDefEqProofs only [h, hm, Option.bind_some]
    rfl
theorem finish_manyI {r s : ResultVar} {rs : List ResultVar} : finish P [.io] (r :: s :: rs) 1 st = (resultsOf P st (r :: s :: rs)).bind fun vs => finI st (.tup vs) := finish_many1 rfl
end
def factBefore (a b : Fact) : Bool :=
  if (!(a.kind == b.kind)) = true then decide (a.kind < b.kind) else if (!(a.subject == b.subject)) = true then decide (a.subject < b.subject) else if (!(a.value == b.value)) = true then decide (a.value < b.value) else decide (a.issuer < b.issuer)
theorem r_spec_FactBefore (k : Nat) (hk : 281474976710656 + 1 ≤ k) (a b : Fact) : run E noExt k 54 [a.enc true, b.enc true] [] = some (.bool (factBefore a b), []) := by
  obtain ⟨k, rfl⟩ : ∃ j, k = j + 1 := ⟨k - 1, by omega⟩
  rw [run_succ rfl rfl, body_eq (nt := 40) (fn := Go.Proofs.Try.f54) (by kernel_rfl) rfl rfl rfl rfl rfl rfl rfl rfl]
  unfold factBefore
  cases h1 : a.kind == b.kind <;> cases h2 : a.subject == b.subject <;> cases h3 : a.value == b.value
  all_goals
    simp -implicitDefEqProofs only [W1, ↓D1, ↓DC, enc_Fact, h1, h2, h3, Go.Proofs.Try.f54, bne, Int.reduceToNat, id_eq, Int.reduceBEq, Int.reduceLE, Int.reduceLT, Nat.reduceAdd, Nat.reduceEqDiff, Nat.reduceLT, Nat.reduceLeDiff, Nat.reduceMul, Nat.reduceSub, reduceIte]
def sameClaim (a b : Fact) : Bool := ((a.kind == b.kind) && (a.subject == b.subject)) && (a.value == b.value) && (a.issuer == b.issuer)
theorem r_spec_SameClaim (k : Nat) (hk : 281474976710656 + 1 ≤ k) (a b : Fact) : run E noExt k 55 [a.enc true, b.enc true] [] = some (.bool (sameClaim a b), []) := by
  obtain ⟨k, rfl⟩ : ∃ j, k = j + 1 := ⟨k - 1, by omega⟩
  rw [run_succ rfl rfl, body_eq (nt := 31) (fn := Go.Proofs.Try.f55) (by kernel_rfl) rfl rfl rfl rfl rfl rfl rfl rfl]
  unfold sameClaim
  cases h1 : a.kind == b.kind <;> cases h2 : a.subject == b.subject <;> cases h3 : a.value == b.value
  all_goals
    simp -implicitDefEqProofs only [W1, ↓D1, ↓DC, enc_Fact, h1, h2, h3, Go.Proofs.Try.f55, bne, Int.reduceToNat, id_eq, Int.reduceBEq, Int.reduceLE, Int.reduceLT, Nat.reduceAdd, Nat.reduceEqDiff, Nat.reduceLT, Nat.reduceLeDiff, Nat.reduceMul, Nat.reduceSub, reduceIte]
def goesOn (l : List Fact) (i : Nat) (e : Fact) : Bool := decide (i = 0) || factBefore (l.getD (i - 1) default) e
def storeStep (l : List Fact) (i : Nat) (e : Fact) (_ : Unit) : Sum Bool Unit := if (isFact e && goesOn l i e) = true then .inr () else .inl false
def isStore (l : List Fact) : Bool := loopL (storeStep l) (fun _ => decide ((l.length : Int) ≤ 30)) 0 l ()
theorem prevF_at {l pre r : List Fact} {e : Fact} (h : l = pre ++ e :: r) (hl : l.length ≤ 140737488355328) (hp : pre.length ≠ 0) :
    IntKind.i64.wrap ((pre.length : Int) - 1) = ((pre.length - 1 : Nat) : Int) ∧ l[pre.length - 1]? = some (l.getD (pre.length - 1) default) ∧ ((0 : Int) < (pre.length : Int)) ∧ (0 : Int) ≤ ((pre.length - 1 : Nat) : Int) := by
  have h1 := (at_row h hl).2.2.2.2
  refine ⟨by rw [IntWalk.i64_in _ (by omega)]; omega, ?_, by omega, by omega⟩
  rw [List.getD_eq_getElem?_getD, List.getElem?_eq_getElem (by omega)]
  rfl
theorem r_spec_IsStore (k : Nat) (hk : 281474976710656 + 10 ≤ k) (l : List Fact) (hl : l.length ≤ 140737488355328) : run E noExt k 51 [.sl true (l.map (Fact.enc true))] [] = some (.bool (isStore l), []) := by
  have c1 := fun e => r_spec_IsFact (fl := true) (k - 1) (by omega) e
  have c3 := fun a b => r_spec_FactBefore (k - 1) (by omega) a b
  obtain ⟨k, rfl⟩ : ∃ j, k = j + 1 := ⟨k - 1, by omega⟩
  rw [run_succ rfl rfl, body_eq (nt := 36) (fn := Go.Proofs.Try.f51) (by kernel_rfl) rfl rfl rfl rfl rfl rfl rfl rfl]
  simp -implicitDefEqProofs only [Nat.add_sub_cancel, enc_Fact] at c1 c3
  simp -implicitDefEqProofs only [W1, ↓D1, ↓DC, Go.Proofs.Try.f51, Int.reduceToNat, id_eq, Int.reduceBEq, Int.reduceLE, Int.reduceLT, Nat.reduceAdd, Nat.reduceEqDiff, Nat.reduceLT, Nat.reduceLeDiff, Nat.reduceMul, Nat.reduceSub, reduceIte]
  have fl : Bool := true
  rw [ev_loop]
  refine Eq.trans (loop_list (Q := fun g x => thenEnd E.P [] _ 0 (thenEv E _ _ _ _ _ (outOf 0 x)) = some (.bool g, [])) (l) (storeStep l) (fun _ => decide ((l.length : Int) ≤ 30))
    (fun i b => { sl := [(0, .sl true (l.map (Fact.enc true))), (3, .int .i64 (i : Nat))], bx := [], nx := 0, nt := 36 }) (fun _ _ => True) (()) ?_ ?_ (by first | omega | (simp; omega)) (trivial) ?_) ?_
  · intro b hb
    simp -implicitDefEqProofs only [W2, ↓D2, ↓DC, QX, leaf_some, isNormal, Int.reduceToNat, id_eq, Int.reduceBEq, Int.reduceLE, Int.reduceLT, Nat.reduceAdd, Nat.reduceEqDiff, Nat.reduceLT, Nat.reduceLeDiff, Nat.reduceMul, Nat.reduceSub, reduceIte]
    repeat' (split <;> (rename_i h; (try simp -implicitDefEqProofs only [Bool.not_eq_true', Bool.not_eq_false', decide_eq_true_eq, decide_eq_false_iff_not] at h); (try simp -implicitDefEqProofs only [W2, ↓D2, ↓DC, QX, *, leaf_some, isNormal, Int.reduceToNat, id_eq, Int.reduceBEq, Int.reduceLE, Int.reduceLT, Nat.reduceAdd, Nat.reduceEqDiff, Nat.reduceLT, Nat.reduceLeDiff, Nat.reduceMul, Nat.reduceSub, reduceIte])))
  · intro pre e r b hs' hb
    have hx := (at_row hs' hl).1; have hc := (at_row hs' hl).2.1; have hlt := (at_row hs' hl).2.2.1; have hw1 := (at_row hs' hl).2.2.2.1; have hl9 := (at_row hs' hl).2.2.2.2
    have c2 := c1 e
    have hst : goesOn l pre.length e = (decide (pre.length = 0) || factBefore (l.getD (pre.length - 1) default) e) := rfl
    by_cases h0 : pre.length = 0
    · have hd : decide (pre.length = 0) = true := by simp [h0]
      have hg0 : decide ((0 : Int) < (pre.length : Int)) = false := by simp [h0]
      clear hs'
      generalize hv : isFact e = v at c2
      cases v <;> simp -implicitDefEqProofs only [hd, Bool.true_or] at hst
      all_goals
        simp -implicitDefEqProofs only [W2, ↓D2, ↓DC, QX, enc_Fact, hx, hlt, hw1, c2, hg0, hv, hst, storeStep, plan_51_4, keep_51_2, leaf_some, isNormal, Int.reduceToNat, id_eq, Int.reduceBEq, Int.reduceLE, Int.reduceLT, Nat.reduceAdd, Nat.reduceEqDiff, Nat.reduceLT, Nat.reduceLeDiff, Nat.reduceMul, Nat.reduceSub, reduceIte]
        repeat' (split <;> (rename_i h; (try simp -implicitDefEqProofs only [Bool.not_eq_true', Bool.not_eq_false', decide_eq_true_eq, decide_eq_false_iff_not] at h); (try simp -implicitDefEqProofs only [W2, ↓D2, ↓DC, QX, *, enc_Fact, hx, hlt, hw1, c2, hg0, hv, hst, storeStep, plan_51_4, keep_51_2, leaf_some, isNormal, Int.reduceToNat, id_eq, Int.reduceBEq, Int.reduceLE, Int.reduceLT, Nat.reduceAdd, Nat.reduceEqDiff, Nat.reduceLT, Nat.reduceLeDiff, Nat.reduceMul, Nat.reduceSub, reduceIte])))
    · obtain ⟨f1, f2, f3, f4⟩ := prevF_at hs' hl h0
      have hd : decide (pre.length = 0) = false := by simp [h0]
      have hg0 : decide ((0 : Int) < (pre.length : Int)) = true := by simp -implicitDefEqProofs only [decide_eq_true_eq]; exact f3
      have c4 := c3 (l.getD (pre.length - 1) default) e
      have hlt1 : ((pre.length - 1 : Nat) : Int) < (l.length : Int) := by omega
      clear hs'
      generalize hv : isFact e = v at c2
      generalize factBefore (l.getD (pre.length - 1) default) e = p1 at hst c4
      cases v <;> cases p1 <;> simp -implicitDefEqProofs only [hd, Bool.false_or, Bool.and_true, Bool.and_false, Bool.not_true, Bool.not_false] at hst
      all_goals
        simp -implicitDefEqProofs only [W2, ↓D2, ↓DC, QX, enc_Fact, hx, hlt, hlt1, hw1, c2, c4, hg0, f1, f2, f4, hv, hst, storeStep, plan_51_4, keep_51_2, leaf_some, isNormal, Int.reduceToNat, id_eq, Int.reduceBEq, Int.reduceLE, Int.reduceLT, Nat.reduceAdd, Nat.reduceEqDiff, Nat.reduceLT, Nat.reduceLeDiff, Nat.reduceMul, Nat.reduceSub, reduceIte]
        repeat' (split <;> (rename_i h; (try simp -implicitDefEqProofs only [Bool.not_eq_true', Bool.not_eq_false', decide_eq_true_eq, decide_eq_false_iff_not] at h); (try simp -implicitDefEqProofs only [W2, ↓D2, ↓DC, QX, *, enc_Fact, hx, hlt, hlt1, hw1, c2, c4, hg0, f1, f2, f4, hv, hst, storeStep, plan_51_4, keep_51_2, leaf_some, isNormal, Int.reduceToNat, id_eq, Int.reduceBEq, Int.reduceLE, Int.reduceLT, Nat.reduceAdd, Nat.reduceEqDiff, Nat.reduceLT, Nat.reduceLeDiff, Nat.reduceMul, Nat.reduceSub, reduceIte])))
  · simp -implicitDefEqProofs only [firstRegion]; rw [keep_51_2]; simp -implicitDefEqProofs only [W2, ↓D2, ↓DC, Int.reduceToNat, id_eq, Int.reduceBEq, Int.reduceLE, Int.reduceLT, Nat.reduceAdd, Nat.reduceEqDiff, Nat.reduceLT, Nat.reduceLeDiff, Nat.reduceMul, Nat.reduceSub, reduceIte]; first | done | rfl
  · rfl
theorem cells_facts (l : List Fact) : ((l.map (Fact.enc true)).all fun y => decide (y.cells.length = 6)) = true := by
  rw [List.all_eq_true]
  intro y hy
  obtain ⟨c, _, rfl⟩ := List.mem_map.1 hy
  rfl
theorem plains_facts (l : List Fact) : plains (l.map (Fact.enc true)) = true := by
  unfold plains
  rw [List.all_eq_true]
  intro y hy
  obtain ⟨c, _, rfl⟩ := List.mem_map.1 hy
  rfl
theorem append_facts {t u id nid : Nat} {l : List Fact} {dst : Option Nat} {st : St} (htu : t = 25) (hu : u = t) (ht : st.tree = false) (hl : l.length ≤ 1048576) :
    evAppend E.P t u (.own id false 34 6 []) (.sl true (l.map (Fact.enc true))) nid dst st = (st.scrub [id]).put dst (.own nid false 34 6 (l.map (Fact.enc true))) := by
  subst hu
  subst htu
  have hm1 : l.length * 48 ≤ 140737488355328 := by omega
  have hm2 : l.length ≤ 9223372036854775807 := by omega
  have h1 := cells_facts l
  have h2 := plains_facts l
  simp -implicitDefEqProofs only [evAppend, rowOf, TIS, Option.bind_some, h1, h2, zeroOK, spent, List.length_map, List.length_nil, List.nil_append, Nat.zero_add, ht, hm1, hm2, List.not_mem_nil, not_false_eq_true, and_self, if_true, true_and, or_true]
  rw [if_pos]
  exact ⟨by decide, rfl, trivial⟩
theorem r_spec_l7Copy (k : Nat) (hk : 281474976710656 + 1 ≤ k) (l : List Fact) (hl : l.length ≤ 1048576) : run E noExt k 53 [.sl true (l.map (Fact.enc true))] [] = some (.own 0 false 34 6 (l.map (Fact.enc true)), []) := by
  obtain ⟨k, rfl⟩ : ∃ j, k = j + 1 := ⟨k - 1, by omega⟩
  rw [run_succ rfl rfl, body_eq (nt := 6) (fn := Go.Proofs.Try.f53) (by kernel_rfl) rfl rfl rfl rfl rfl rfl rfl rfl]
  simp -implicitDefEqProofs only [W3, ↓D3, ↓DP, ↓DC, hl, append_facts, Go.Proofs.Try.f53, SH, Int.reduceToNat, id_eq, Int.reduceBEq, Int.reduceLE, Int.reduceLT, Nat.reduceAdd, Nat.reduceEqDiff, Nat.reduceLT, Nat.reduceLeDiff, Nat.reduceMul, Nat.reduceSub, reduceIte]
  try trace_state
theorem scals_Fact (m : List Fact) : AV.scals (m.map (Fact.enc true)) = true := by
  induction m with
  | nil => rfl
  | cons b m ih => simpa [AV.scals, AV.scal, enc_Fact] using ih
theorem five : ∀ a b c d : Bool, a = false ∨ (a = true ∧ b = true) ∨ (a = true ∧ b = false ∧ c = false) ∨ (a = true ∧ b = false ∧ c = true ∧ d = true) ∨ (a = true ∧ b = false ∧ c = true ∧ d = false) := by decide
theorem three : ∀ a b : Bool, a = true ∨ (a = false ∧ b = true) ∨ (a = false ∧ b = false) := by decide
def putIns (f x : Fact) (b : List Fact × Bool) : List Fact × Bool := if (!b.2 && factBefore f x) = true then (b.1 ++ [f], true) else b
def laterF (f x : Fact) : Bool := decide (x.at_ < f.at_) || ((f.at_ == x.at_) && decide (x.until_ < f.until_))
def putX (f x : Fact) : Fact := if (sameClaim f x && laterF f x) = true then f else x
def putF (f : Fact) (b : List Fact × Bool) (x : Fact) : List Fact × Bool := ((putIns f x b).1 ++ [putX f x], sameClaim f x || (putIns f x b).2)
def putStep (f : Fact) (_ : Nat) (x : Fact) (b : List Fact × Bool) : Sum (List Fact × Bool) (List Fact × Bool) := .inr (putF f b x)
theorem putLoop (f : Fact) : ∀ (s : List Fact) (i : Nat) (b : List Fact × Bool), loopL (putStep f) id i s b = s.foldl (putF f) b
  | [], _, _ => rfl
  | x :: r, i, b => by simp -implicitDefEqProofs only [loopL, putStep, List.foldl_cons]; exact putLoop f r (i + 1) _
def putAll (s : List Fact) (f : Fact) : List Fact := if (s.foldl (putF f) ([], false)).2 = true then (s.foldl (putF f) ([], false)).1 else (s.foldl (putF f) ([], false)).1 ++ [f]
def putOk (s : List Fact) (f : Fact) : Bool := isStore s && (isFact f && decide ((putAll s f).length ≤ 30))
def putS (s : List Fact) (f : Fact) : List Fact := if putOk s f = true then putAll s f else s
theorem putS_len {s : List Fact} {f : Fact} (h : s.length ≤ 30) : (putS s f).length ≤ 30 := by
  unfold putS
  split
  · rename_i h1
    unfold putOk at h1
    simp -implicitDefEqProofs only [Bool.and_eq_true, decide_eq_true_eq] at h1
    exact h1.2.2
  · exact h
set_option maxHeartbeats 1000000 in
theorem r_spec_PutFact (k : Nat) (hk : 281474976710656 + 20 ≤ k) (s : List Fact) (hs : s.length ≤ 1000) (f : Fact) :
    run E noExt k 36 [.sl true (s.map (Fact.enc true)), f.enc true] [] = some (.tup [.own 0 false 34 6 ((putS s f).map (Fact.enc true)), .bool (putOk s f)], []) := by
  have c1 := r_spec_IsStore (k - 1) (by omega) s (by omega)
  have c2 := r_spec_IsFact (fl := true) (k - 1) (by omega) f
  have c3 := r_spec_l7Copy (k - 1) (by omega) s (by omega)
  have c4 := fun a b => r_spec_FactBefore (k - 1) (by omega) a b
  have c5 := fun a b => r_spec_SameClaim (k - 1) (by omega) a b
  have hl : s.length ≤ 140737488355328 := by omega
  obtain ⟨k, rfl⟩ : ∃ j, k = j + 1 := ⟨k - 1, by omega⟩
  rw [run_succ rfl rfl, body_eq (nt := 84) (fn := Go.Proofs.Try.f36) (by kernel_rfl) rfl rfl rfl rfl rfl rfl rfl rfl]
  simp -implicitDefEqProofs only [Nat.add_sub_cancel, enc_Fact] at c1 c2 c3 c4 c5
  unfold putS putOk
  cases h1 : isStore s
  · simp -implicitDefEqProofs only [W3, ↓D3, ↓DA, ↓DP, ↓DC, h1, enc_Fact, Go.Proofs.Try.f36, c1, c3, scals_Fact, SH, Int.reduceToNat, id_eq, Int.reduceBEq, Int.reduceLE, Int.reduceLT, Nat.reduceAdd, Nat.reduceEqDiff, Nat.reduceLT, Nat.reduceLeDiff, Nat.reduceMul, Nat.reduceSub, reduceIte]
  · cases h2 : isFact f
    · simp -implicitDefEqProofs only [W3, ↓D3, ↓DA, ↓DP, ↓DC, h1, h2, enc_Fact, Go.Proofs.Try.f36, c1, c2, c3, scals_Fact, SH, Int.reduceToNat, id_eq, Int.reduceBEq, Int.reduceLE, Int.reduceLT, Nat.reduceAdd, Nat.reduceEqDiff, Nat.reduceLT, Nat.reduceLeDiff, Nat.reduceMul, Nat.reduceSub, reduceIte]
    · simp -implicitDefEqProofs only [W3, ↓D3, ↓DA, ↓DP, ↓DC, h1, h2, enc_Fact, Go.Proofs.Try.f36, c1, c2, SH, Int.reduceToNat, id_eq, Int.reduceBEq, Int.reduceLE, Int.reduceLT, Nat.reduceAdd, Nat.reduceEqDiff, Nat.reduceLT, Nat.reduceLeDiff, Nat.reduceMul, Nat.reduceSub, reduceIte]
      rw [ev_loop]
      refine Eq.trans (loop_list (Q := fun (R : List Fact × Bool) x => R = s.foldl (putF f) ([], false) → thenEnd E.P [] _ 0 (thenEv E _ _ _ _ _ (outOf 0 x)) = some (.tup [.own 0 false 34 6 ((if (putAll s f).length ≤ 30 then putAll s f else s).map (Fact.enc true)), .bool (decide ((putAll s f).length ≤ 30))], [])) s (putStep f) id
        (fun i b => { sl := [(0, .sl true (s.map (Fact.enc true))), (3, .ptr 0 0), (6, .own 0 false 34 6 (b.1.map (Fact.enc true))), (7, .bool b.2), (8, .int .i64 (i : Nat))], bx := [(0, [.int .i64 f.kind, .int .i64 f.subject, .int .i64 f.value, .int .i64 f.issuer, .int .i64 f.at_, .int .i64 f.until_])], nx := 2, nt := 84 }) (fun i b => b.1.length ≤ 2 * i) ([], false) ?_ ?_ (by omega) (by simp) ?_ (putLoop f s 0 _)) ?_
      · rintro ⟨out, d⟩ hb
        simp only at hb
        have hlt : ¬ ((s.length : Nat) : Int) < ((s.length : Nat) : Int) := by omega
        have hm1 : (out.length + 1) * 48 ≤ 140737488355328 := by omega
        have hm2 : out.length + 1 ≤ 9223372036854775807 := by omega
        have hm9 : out.length ≤ 9223372036854775806 := by omega
        have hpl : plains [.agg [.int .i64 f.kind, .int .i64 f.subject, .int .i64 f.value, .int .i64 f.issuer, .int .i64 f.at_, .int .i64 f.until_]] = true := rfl
        cases d
        · by_cases hlen : out.length + 1 ≤ 30
          · have hgt : ¬ (30 : Int) < ((out.length + 1 : Nat) : Int) := by omega
            simp -implicitDefEqProofs only [W3, ↓D3, ↓DA, ↓DP, ↓DC, QX, hlt, hgt, hm1, hm2, hm9, hpl, List.length_append, scals_Fact, SH, leaf_some, isNormal, Int.reduceToNat, id_eq, Int.reduceBEq, Int.reduceLE, Int.reduceLT, Nat.reduceAdd, Nat.reduceEqDiff, Nat.reduceLT, Nat.reduceLeDiff, Nat.reduceMul, Nat.reduceSub, reduceIte]
            intro hR
            have hp : putAll s f = out ++ [f] := by unfold putAll; rw [← hR]; rfl
            rw [hp]
            simp [hlen, enc_Fact]
          · have hgt : (30 : Int) < ((out.length + 1 : Nat) : Int) := by omega
            simp -implicitDefEqProofs only [W3, ↓D3, ↓DA, ↓DP, ↓DC, QX, hlt, hgt, c3, hm1, hm2, hm9, hpl, List.length_append, scals_Fact, SH, leaf_some, isNormal, Int.reduceToNat, id_eq, Int.reduceBEq, Int.reduceLE, Int.reduceLT, Nat.reduceAdd, Nat.reduceEqDiff, Nat.reduceLT, Nat.reduceLeDiff, Nat.reduceMul, Nat.reduceSub, reduceIte]
            intro hR
            have hp : putAll s f = out ++ [f] := by unfold putAll; rw [← hR]; rfl
            rw [hp]
            simp [hlen]
        · by_cases hlen : out.length ≤ 30
          · have hgt : ¬ (30 : Int) < ((out.length : Nat) : Int) := by omega
            simp -implicitDefEqProofs only [W3, ↓D3, ↓DA, ↓DP, ↓DC, QX, hlt, hgt, scals_Fact, SH, leaf_some, isNormal, Int.reduceToNat, id_eq, Int.reduceBEq, Int.reduceLE, Int.reduceLT, Nat.reduceAdd, Nat.reduceEqDiff, Nat.reduceLT, Nat.reduceLeDiff, Nat.reduceMul, Nat.reduceSub, reduceIte]
            intro hR
            have hp : putAll s f = out := by unfold putAll; rw [← hR]; rfl
            rw [hp]
            simp [hlen]
          · have hgt : (30 : Int) < ((out.length : Nat) : Int) := by omega
            simp -implicitDefEqProofs only [W3, ↓D3, ↓DA, ↓DP, ↓DC, QX, hlt, hgt, c3, scals_Fact, SH, leaf_some, isNormal, Int.reduceToNat, id_eq, Int.reduceBEq, Int.reduceLE, Int.reduceLT, Nat.reduceAdd, Nat.reduceEqDiff, Nat.reduceLT, Nat.reduceLeDiff, Nat.reduceMul, Nat.reduceSub, reduceIte]
            intro hR
            have hp : putAll s f = out := by unfold putAll; rw [← hR]; rfl
            rw [hp]
            simp [hlen]
      · rintro pre x r ⟨out, d⟩ hs' hb
        simp only at hb
        have hpre : pre.length ≤ 1000 := by have := congrArg List.length hs'; rw [List.length_append] at this; omega
        have hout : out.length ≤ 2000 := by omega
        have hb1 : out.length + 1 ≤ 2 * (pre.length + 1) := by omega
        have hb2 : out.length + 1 + 1 ≤ 2 * (pre.length + 1) := by omega
        obtain ⟨hm1, hm2, hm9, hn1, hn2, hn9⟩ : (out.length + 1) * 48 ≤ 140737488355328 ∧ out.length + 1 ≤ 9223372036854775807 ∧ out.length ≤ 9223372036854775806 ∧ (out.length + 1 + 1) * 48 ≤ 140737488355328 ∧ out.length + 1 + 1 ≤ 9223372036854775807 ∧ out.length + 1 ≤ 9223372036854775806 :=
          ⟨by omega, by omega, by omega, by omega, by omega, by omega⟩
        have hx := (at_row hs' hl).1; have hc := (at_row hs' hl).2.1; have hlt := (at_row hs' hl).2.2.1; have hw1 := (at_row hs' hl).2.2.2.1; have hl9 := (at_row hs' hl).2.2.2.2
        clear hs' hpre hout hb
        have hpl : ∀ f : Fact, plains [.agg [.int .i64 f.kind, .int .i64 f.subject, .int .i64 f.value, .int .i64 f.issuer, .int .i64 f.at_, .int .i64 f.until_]] = true := fun _ => rfl
        have d4 := c4 f x
        have d5 := c5 f x
        simp -implicitDefEqProofs only [putStep, putF, putIns, putX, laterF]
        rcases three d (factBefore f x) with rfl | ⟨rfl, hB⟩ | ⟨rfl, hB⟩
        · rcases five (sameClaim f x) (decide (x.at_ < f.at_)) (f.at_ == x.at_) (decide (x.until_ < f.until_)) with hS | ⟨hS, hT⟩ | ⟨hS, hT, hU⟩ | ⟨hS, hT, hU, hV⟩ | ⟨hS, hT, hU, hV⟩
          · rw [hS] at d5
            simp -implicitDefEqProofs only [W3, ↓D3, ↓DA, ↓DP, ↓DC, hS, d5, hx, hlt, hw1, enc_Fact, leaf_some, hm1, hm2, hm9, hn1, hn2, hn9, hb1, hb2, hpl, List.map_append, List.length_append, plan_36_8, keep_36_6, SH, Int.reduceToNat, id_eq, Int.reduceBEq, Int.reduceLE, Int.reduceLT, Nat.reduceAdd, Nat.reduceEqDiff, Nat.reduceLT, Nat.reduceLeDiff, Nat.reduceMul, Nat.reduceSub, reduceIte]
            try trace_state
          · rw [hS] at d5
            simp -implicitDefEqProofs only [W3, ↓D3, ↓DA, ↓DP, ↓DC, hS, hT, d5, hx, hlt, hw1, enc_Fact, leaf_some, hm1, hm2, hm9, hn1, hn2, hn9, hb1, hb2, hpl, List.map_append, List.length_append, plan_36_8, keep_36_6, SH, Int.reduceToNat, id_eq, Int.reduceBEq, Int.reduceLE, Int.reduceLT, Nat.reduceAdd, Nat.reduceEqDiff, Nat.reduceLT, Nat.reduceLeDiff, Nat.reduceMul, Nat.reduceSub, reduceIte]
            try trace_state
          · rw [hS] at d5
            simp -implicitDefEqProofs only [W3, ↓D3, ↓DA, ↓DP, ↓DC, hS, hT, hU, d5, hx, hlt, hw1, enc_Fact, leaf_some, hm1, hm2, hm9, hn1, hn2, hn9, hb1, hb2, hpl, List.map_append, List.length_append, plan_36_8, keep_36_6, SH, Int.reduceToNat, id_eq, Int.reduceBEq, Int.reduceLE, Int.reduceLT, Nat.reduceAdd, Nat.reduceEqDiff, Nat.reduceLT, Nat.reduceLeDiff, Nat.reduceMul, Nat.reduceSub, reduceIte]
            try trace_state
          · rw [hS] at d5
            simp -implicitDefEqProofs only [W3, ↓D3, ↓DA, ↓DP, ↓DC, hS, hT, hU, hV, d5, hx, hlt, hw1, enc_Fact, leaf_some, hm1, hm2, hm9, hn1, hn2, hn9, hb1, hb2, hpl, List.map_append, List.length_append, plan_36_8, keep_36_6, SH, Int.reduceToNat, id_eq, Int.reduceBEq, Int.reduceLE, Int.reduceLT, Nat.reduceAdd, Nat.reduceEqDiff, Nat.reduceLT, Nat.reduceLeDiff, Nat.reduceMul, Nat.reduceSub, reduceIte]
            try trace_state
          · rw [hS] at d5
            simp -implicitDefEqProofs only [W3, ↓D3, ↓DA, ↓DP, ↓DC, hS, hT, hU, hV, d5, hx, hlt, hw1, enc_Fact, leaf_some, hm1, hm2, hm9, hn1, hn2, hn9, hb1, hb2, hpl, List.map_append, List.length_append, plan_36_8, keep_36_6, SH, Int.reduceToNat, id_eq, Int.reduceBEq, Int.reduceLE, Int.reduceLT, Nat.reduceAdd, Nat.reduceEqDiff, Nat.reduceLT, Nat.reduceLeDiff, Nat.reduceMul, Nat.reduceSub, reduceIte]
            try trace_state
        · rcases five (sameClaim f x) (decide (x.at_ < f.at_)) (f.at_ == x.at_) (decide (x.until_ < f.until_)) with hS | ⟨hS, hT⟩ | ⟨hS, hT, hU⟩ | ⟨hS, hT, hU, hV⟩ | ⟨hS, hT, hU, hV⟩
          all_goals rw [hB] at d4
          · rw [hS] at d5
            simp -implicitDefEqProofs only [W3, ↓D3, ↓DA, ↓DP, ↓DC, hS, hB, d5, d4, hx, hlt, hw1, enc_Fact, leaf_some, hm1, hm2, hm9, hn1, hn2, hn9, hb1, hb2, hpl, List.map_append, List.length_append, plan_36_8, keep_36_6, SH, Int.reduceToNat, id_eq, Int.reduceBEq, Int.reduceLE, Int.reduceLT, Nat.reduceAdd, Nat.reduceEqDiff, Nat.reduceLT, Nat.reduceLeDiff, Nat.reduceMul, Nat.reduceSub, reduceIte]
            try trace_state
          · rw [hS] at d5
            simp -implicitDefEqProofs only [W3, ↓D3, ↓DA, ↓DP, ↓DC, hS, hT, hB, d5, d4, hx, hlt, hw1, enc_Fact, leaf_some, hm1, hm2, hm9, hn1, hn2, hn9, hb1, hb2, hpl, List.map_append, List.length_append, plan_36_8, keep_36_6, SH, Int.reduceToNat, id_eq, Int.reduceBEq, Int.reduceLE, Int.reduceLT, Nat.reduceAdd, Nat.reduceEqDiff, Nat.reduceLT, Nat.reduceLeDiff, Nat.reduceMul, Nat.reduceSub, reduceIte]
            try trace_state
          · rw [hS] at d5
            simp -implicitDefEqProofs only [W3, ↓D3, ↓DA, ↓DP, ↓DC, hS, hT, hU, hB, d5, d4, hx, hlt, hw1, enc_Fact, leaf_some, hm1, hm2, hm9, hn1, hn2, hn9, hb1, hb2, hpl, List.map_append, List.length_append, plan_36_8, keep_36_6, SH, Int.reduceToNat, id_eq, Int.reduceBEq, Int.reduceLE, Int.reduceLT, Nat.reduceAdd, Nat.reduceEqDiff, Nat.reduceLT, Nat.reduceLeDiff, Nat.reduceMul, Nat.reduceSub, reduceIte]
            try trace_state
          · rw [hS] at d5
            simp -implicitDefEqProofs only [W3, ↓D3, ↓DA, ↓DP, ↓DC, hS, hT, hU, hV, hB, d5, d4, hx, hlt, hw1, enc_Fact, leaf_some, hm1, hm2, hm9, hn1, hn2, hn9, hb1, hb2, hpl, List.map_append, List.length_append, plan_36_8, keep_36_6, SH, Int.reduceToNat, id_eq, Int.reduceBEq, Int.reduceLE, Int.reduceLT, Nat.reduceAdd, Nat.reduceEqDiff, Nat.reduceLT, Nat.reduceLeDiff, Nat.reduceMul, Nat.reduceSub, reduceIte]
            try trace_state
          · rw [hS] at d5
            simp -implicitDefEqProofs only [W3, ↓D3, ↓DA, ↓DP, ↓DC, hS, hT, hU, hV, hB, d5, d4, hx, hlt, hw1, enc_Fact, leaf_some, hm1, hm2, hm9, hn1, hn2, hn9, hb1, hb2, hpl, List.map_append, List.length_append, plan_36_8, keep_36_6, SH, Int.reduceToNat, id_eq, Int.reduceBEq, Int.reduceLE, Int.reduceLT, Nat.reduceAdd, Nat.reduceEqDiff, Nat.reduceLT, Nat.reduceLeDiff, Nat.reduceMul, Nat.reduceSub, reduceIte]
            try trace_state
        · rcases five (sameClaim f x) (decide (x.at_ < f.at_)) (f.at_ == x.at_) (decide (x.until_ < f.until_)) with hS | ⟨hS, hT⟩ | ⟨hS, hT, hU⟩ | ⟨hS, hT, hU, hV⟩ | ⟨hS, hT, hU, hV⟩
          all_goals rw [hB] at d4
          · rw [hS] at d5
            simp -implicitDefEqProofs only [W3, ↓D3, ↓DA, ↓DP, ↓DC, hS, hB, d5, d4, hx, hlt, hw1, enc_Fact, leaf_some, hm1, hm2, hm9, hn1, hn2, hn9, hb1, hb2, hpl, List.map_append, List.length_append, plan_36_8, keep_36_6, SH, Int.reduceToNat, id_eq, Int.reduceBEq, Int.reduceLE, Int.reduceLT, Nat.reduceAdd, Nat.reduceEqDiff, Nat.reduceLT, Nat.reduceLeDiff, Nat.reduceMul, Nat.reduceSub, reduceIte]
            try trace_state
          · rw [hS] at d5
            simp -implicitDefEqProofs only [W3, ↓D3, ↓DA, ↓DP, ↓DC, hS, hT, hB, d5, d4, hx, hlt, hw1, enc_Fact, leaf_some, hm1, hm2, hm9, hn1, hn2, hn9, hb1, hb2, hpl, List.map_append, List.length_append, plan_36_8, keep_36_6, SH, Int.reduceToNat, id_eq, Int.reduceBEq, Int.reduceLE, Int.reduceLT, Nat.reduceAdd, Nat.reduceEqDiff, Nat.reduceLT, Nat.reduceLeDiff, Nat.reduceMul, Nat.reduceSub, reduceIte]
            try trace_state
          · rw [hS] at d5
            simp -implicitDefEqProofs only [W3, ↓D3, ↓DA, ↓DP, ↓DC, hS, hT, hU, hB, d5, d4, hx, hlt, hw1, enc_Fact, leaf_some, hm1, hm2, hm9, hn1, hn2, hn9, hb1, hb2, hpl, List.map_append, List.length_append, plan_36_8, keep_36_6, SH, Int.reduceToNat, id_eq, Int.reduceBEq, Int.reduceLE, Int.reduceLT, Nat.reduceAdd, Nat.reduceEqDiff, Nat.reduceLT, Nat.reduceLeDiff, Nat.reduceMul, Nat.reduceSub, reduceIte]
            try trace_state
          · rw [hS] at d5
            simp -implicitDefEqProofs only [W3, ↓D3, ↓DA, ↓DP, ↓DC, hS, hT, hU, hV, hB, d5, d4, hx, hlt, hw1, enc_Fact, leaf_some, hm1, hm2, hm9, hn1, hn2, hn9, hb1, hb2, hpl, List.map_append, List.length_append, plan_36_8, keep_36_6, SH, Int.reduceToNat, id_eq, Int.reduceBEq, Int.reduceLE, Int.reduceLT, Nat.reduceAdd, Nat.reduceEqDiff, Nat.reduceLT, Nat.reduceLeDiff, Nat.reduceMul, Nat.reduceSub, reduceIte]
            try trace_state
          · rw [hS] at d5
            simp -implicitDefEqProofs only [W3, ↓D3, ↓DA, ↓DP, ↓DC, hS, hT, hU, hV, hB, d5, d4, hx, hlt, hw1, enc_Fact, leaf_some, hm1, hm2, hm9, hn1, hn2, hn9, hb1, hb2, hpl, List.map_append, List.length_append, plan_36_8, keep_36_6, SH, Int.reduceToNat, id_eq, Int.reduceBEq, Int.reduceLE, Int.reduceLT, Nat.reduceAdd, Nat.reduceEqDiff, Nat.reduceLT, Nat.reduceLeDiff, Nat.reduceMul, Nat.reduceSub, reduceIte]
            try trace_state
      · simp -implicitDefEqProofs only [firstRegion]
        rw [keep_36_6]
        simp -implicitDefEqProofs only [W3, ↓D3, ↓DA, ↓DP, ↓DC, Int.reduceToNat, id_eq, Int.reduceBEq, Int.reduceLE, Int.reduceLT, SH, Nat.reduceAdd, Nat.reduceEqDiff, Nat.reduceLT, Nat.reduceLeDiff, Nat.reduceMul, Nat.reduceSub, reduceIte]
      · rfl
end Go.Proofs.Ytggkeechdakccaa.Flat
