/-
The draws: the cursor.
-/
import Derived.Test.YtaojmienjikfbaaGreatDoorEqE
import Derived.Test.YtaojmienjikfbaaGreatDoorEqIOB
set_option linter.unusedVariables false
set_option linter.unusedSimpArgs false
set_option maxRecDepth 10000
namespace Go.Proofs.YtaojmienjikfbaaGreatDoor.Flat
def byteA (z : Int) : AV := .int .u8 z
theorem byteA_eq {z : Int} : byteA z = .int .u8 z := rfl
theorem and_255 (x : Int) : 0 ≤ bits .and .i64 x 255 ∧ bits .and .i64 x 255 ≤ 255 := by
  unfold bits
  simp only
  have h : ((BitVec.ofInt IntKind.i64.bits x) &&& (BitVec.ofInt IntKind.i64.bits 255)).toNat ≤ 255 := by
    rw [BitVec.toNat_and]
    exact Nat.le_trans Nat.and_le_right (by decide)
  rw [IntWalk.i64_in _ (by omega)]
  omega
theorem conv_u8 {x : Int} : evConvert E.P 5 3 (.int .u8 x) = some (.int .i64 (IntKind.i64.wrap x)) := by kernel_rfl
def nextH (h : Int) : Int := IntKind.i64.wrap (IntKind.i64.wrap (h * 6364136223846793005) + 1442695040888963407)
def shrI (n : Nat) (x : Int) : Int := x.fdiv (2 ^ n)
theorem shr33 {P : Program} {t : Nat} {x : Int} : evBin2 P .shr t (.int .i64 x) (.int .u64 33) = some (.int .i64 (shrI 33 x)) := rfl
theorem shr47 {P : Program} {t : Nat} {x : Int} : evBin2 P .shr t (.int .i64 x) (.int .u64 47) = some (.int .i64 (shrI 47 x)) := rfl
theorem xorI {P : Program} {t : Nat} {x y : Int} : evBin2 P .xor t (.int .i64 x) (.int .i64 y) = some (.int .i64 (bits .xor .i64 x y)) := rfl
theorem andI {P : Program} {t : Nat} {x y : Int} : evBin2 P .and t (.int .i64 x) (.int .i64 y) = some (.int .i64 (bits .and .i64 x y)) := rfl
def rawB (h : Int) : Int := bits .and .i64 (bits .xor .i64 (shrI 33 (nextH h)) (shrI 47 (nextH h))) 255
def byteAt (bs : List Int) (i : Nat) (h : Int) : Int := match bs[i]? with
  | some z => bits .and .i64 (IntKind.i64.wrap (rawB h + IntKind.i64.wrap z)) 255
  | none => rawB h
def nextI (bs : List Int) (i : Nat) : Nat := match bs[i]? with
  | some _ => i + 1
  | none => i
theorem byteAt_le (bs : List Int) (i : Nat) (h : Int) : 0 ≤ byteAt bs i h ∧ byteAt bs i h ≤ 255 := by
  unfold byteAt
  split <;> exact and_255 _
theorem r_spec_l1Byte {fl : Bool} (k : Nat) (hk : 281474976710656 + 1 ≤ k) (bs : List Int) (hb : bs.length ≤ 140737488355328) (i : Nat) (h : Int) :
    run E noExt k 107 [.ptr 0 0] [[.sl fl (bs.map byteA), .int .i64 (i : Nat), .int .i64 h]] = some (.int .i64 (byteAt bs i h), [[.sl fl (bs.map byteA), .int .i64 (nextI bs i : Nat), .int .i64 (nextH h)]]) := by
  obtain ⟨k, rfl⟩ : ∃ j, k = j + 1 := ⟨k - 1, by omega⟩
  rw [run_succ rfl rfl, body_eq (nt := 58) (fn := Go.Proofs.Tryz.f107) (by kernel_rfl) rfl rfl rfl rfl rfl rfl rfl rfl]
  rcases Nat.lt_or_ge i bs.length with hi | hi
  · have hx : bs[i]? = some bs[i] := List.getElem?_eq_getElem hi
    have hx2 : (bs.map byteA)[i]? = some (.int .u8 bs[i]) := by rw [List.getElem?_map, hx]; rfl
    have hlt : ((i : Nat) : Int) < ((bs.length : Nat) : Int) := by omega
    have hw : IntKind.i64.wrap (((i : Nat) : Int) + 1) = ((i + 1 : Nat) : Int) := by rw [IntWalk.i64_in _ (by omega)]; omega
    simp -implicitDefEqProofs only [W3, ↓D3, ↓DA, ↓DP, ↓DC, byteAt, nextI, hx, Go.Proofs.Tryz.f107, plan_107_2, plan_107_3, plan_107_4, hlt, hw, shr33, shr47, xorI, andI, byteA_eq, rawB, nextH, op_convert, conv_u8, look_nil, evCall_io1, evCall_io2, evCall_io3, evCall_io4, finJ_1, finJ_2, finJ_3, finJ_4, finJ_int, finJ_bool, finJ_str, finJ_nils, finJ_agg, finJ_own, finJ_sl, finJ_tup, look_cons, reduceCtorEq, evCall_mutOwn, evCall_mutAgg, evGive, giveRows, ioBoxes, mutArgs, roArgs, handArg, mutSlots, isPtrB, pairs, pairss, back_nil, back_cons, backO, backE, setBoxes, importB, mode_mut, mode_give, mode_io, mode_ro, List.zip_cons_cons, List.zip_nil_left, List.zip_nil_right, ite_self, ite_true, ite_false, finish_give, finish_mut1, finish_io0, finish_io2, finish_io3, finish_ioc, finI, finC, finW_ptr, SH, Int.reduceToNat, id_eq, Int.reduceBEq, Int.reduceLE, Int.reduceLT, Nat.reduceAdd, Nat.reduceEqDiff, Nat.reduceLT, Nat.reduceLeDiff, Nat.reduceMul, Nat.reduceSub, reduceIte]
  · have hx : bs[i]? = none := List.getElem?_eq_none hi
    have hlt : ¬ ((i : Nat) : Int) < ((bs.length : Nat) : Int) := by omega
    simp -implicitDefEqProofs only [W3, ↓D3, ↓DA, ↓DP, ↓DC, byteAt, nextI, hx, Go.Proofs.Tryz.f107, plan_107_2, plan_107_3, plan_107_4, hlt, shr33, shr47, xorI, andI, byteA_eq, rawB, nextH, op_convert, conv_u8, look_nil, evCall_io1, evCall_io2, evCall_io3, evCall_io4, finJ_1, finJ_2, finJ_3, finJ_4, finJ_int, finJ_bool, finJ_str, finJ_nils, finJ_agg, finJ_own, finJ_sl, finJ_tup, look_cons, reduceCtorEq, evCall_mutOwn, evCall_mutAgg, evGive, giveRows, ioBoxes, mutArgs, roArgs, handArg, mutSlots, isPtrB, pairs, pairss, back_nil, back_cons, backO, backE, setBoxes, importB, mode_mut, mode_give, mode_io, mode_ro, List.zip_cons_cons, List.zip_nil_left, List.zip_nil_right, ite_self, ite_true, ite_false, finish_give, finish_mut1, finish_io0, finish_io2, finish_io3, finish_ioc, finI, finC, finW_ptr, SH, Int.reduceToNat, id_eq, Int.reduceBEq, Int.reduceLE, Int.reduceLT, Nat.reduceAdd, Nat.reduceEqDiff, Nat.reduceLT, Nat.reduceLeDiff, Nat.reduceMul, Nat.reduceSub, reduceIte]
def below1 (bs : List Int) (n : Int) (i : Nat) (h : Int) : Int := if n ≤ 0 then 0 else if n ≤ 256 then (byteAt bs i h).tmod n else
  (IntKind.i64.wrap (IntKind.i64.wrap (IntKind.i64.wrap (byteAt bs i h * 65536) + IntKind.i64.wrap (byteAt bs (nextI bs i) (nextH h) * 256)) + byteAt bs (nextI bs (nextI bs i)) (nextH (nextH h)))).tmod n
def belowI (bs : List Int) (n : Int) (i : Nat) : Nat := if n ≤ 0 then i else if n ≤ 256 then nextI bs i else nextI bs (nextI bs (nextI bs i))
def belowH (n : Int) (h : Int) : Int := if n ≤ 0 then h else if n ≤ 256 then nextH h else nextH (nextH (nextH h))
theorem r_spec_l1Below {fl : Bool} (k : Nat) (hk : 281474976710656 + 2 ≤ k) (bs : List Int) (hb : bs.length ≤ 140737488355328) (n : Int) (i : Nat) (h : Int) :
    run E noExt k 85 [.ptr 0 0, .int .i64 n] [[.sl fl (bs.map byteA), .int .i64 (i : Nat), .int .i64 h]] = some (.int .i64 (below1 bs n i h), [[.sl fl (bs.map byteA), .int .i64 (belowI bs n i : Nat), .int .i64 (belowH n h)]]) := by
  have c1 := fun i h => r_spec_l1Byte (fl := fl) (k - 1) (by omega) bs hb i h
  obtain ⟨k, rfl⟩ : ∃ j, k = j + 1 := ⟨k - 1, by omega⟩
  rw [run_succ rfl rfl, body_eq (nt := 31) (fn := Go.Proofs.Tryz.f85) (by kernel_rfl) rfl rfl rfl rfl rfl rfl rfl rfl]
  simp -implicitDefEqProofs only [Nat.add_sub_cancel] at c1
  rcases Classical.em (n ≤ 0) with h0 | h0
  · simp -implicitDefEqProofs only [W3, ↓D3, ↓DA, ↓DP, ↓DC, below1, belowI, belowH, Go.Proofs.Tryz.f85, h0, c1, look_nil, evCall_io1, evCall_io2, evCall_io3, evCall_io4, finJ_1, finJ_2, finJ_3, finJ_4, finJ_int, finJ_bool, finJ_str, finJ_nils, finJ_agg, finJ_own, finJ_sl, finJ_tup, look_cons, reduceCtorEq, evCall_mutOwn, evCall_mutAgg, evGive, giveRows, ioBoxes, mutArgs, roArgs, handArg, mutSlots, isPtrB, pairs, pairss, back_nil, back_cons, backO, backE, setBoxes, importB, mode_mut, mode_give, mode_io, mode_ro, List.zip_cons_cons, List.zip_nil_left, List.zip_nil_right, ite_self, ite_true, ite_false, finish_give, finish_mut1, finish_io0, finish_io2, finish_io3, finish_ioc, finI, finC, finW_ptr, SH, Int.reduceToNat, id_eq, Int.reduceBEq, Int.reduceLE, Int.reduceLT, Nat.reduceAdd, Nat.reduceEqDiff, Nat.reduceLT, Nat.reduceLeDiff, Nat.reduceMul, Nat.reduceSub, reduceIte]
  rcases Classical.em (n ≤ 256) with h1 | h1
  · have hn : ∀ t x, evBin2 E.P .rem t (.int .i64 x) (.int .i64 n) = some (.int .i64 (x.tmod n)) := fun t x => by
      have h9 : ¬ n = 0 := by omega
      simp [evBin2, evBin, evInt, h9]
    simp -implicitDefEqProofs only [W3, ↓D3, ↓DA, ↓DP, ↓DC, below1, belowI, belowH, Go.Proofs.Tryz.f85, h0, h1, hn, c1, look_nil, evCall_io1, evCall_io2, evCall_io3, evCall_io4, finJ_1, finJ_2, finJ_3, finJ_4, finJ_int, finJ_bool, finJ_str, finJ_nils, finJ_agg, finJ_own, finJ_sl, finJ_tup, look_cons, reduceCtorEq, evCall_mutOwn, evCall_mutAgg, evGive, giveRows, ioBoxes, mutArgs, roArgs, handArg, mutSlots, isPtrB, pairs, pairss, back_nil, back_cons, backO, backE, setBoxes, importB, mode_mut, mode_give, mode_io, mode_ro, List.zip_cons_cons, List.zip_nil_left, List.zip_nil_right, ite_self, ite_true, ite_false, finish_give, finish_mut1, finish_io0, finish_io2, finish_io3, finish_ioc, finI, finC, finW_ptr, SH, Int.reduceToNat, id_eq, Int.reduceBEq, Int.reduceLE, Int.reduceLT, Nat.reduceAdd, Nat.reduceEqDiff, Nat.reduceLT, Nat.reduceLeDiff, Nat.reduceMul, Nat.reduceSub, reduceIte]
  · have hn : ∀ t x, evBin2 E.P .rem t (.int .i64 x) (.int .i64 n) = some (.int .i64 (x.tmod n)) := fun t x => by
      have h9 : ¬ n = 0 := by omega
      simp [evBin2, evBin, evInt, h9]
    simp -implicitDefEqProofs only [W3, ↓D3, ↓DA, ↓DP, ↓DC, below1, belowI, belowH, Go.Proofs.Tryz.f85, h0, h1, hn, c1, look_nil, evCall_io1, evCall_io2, evCall_io3, evCall_io4, finJ_1, finJ_2, finJ_3, finJ_4, finJ_int, finJ_bool, finJ_str, finJ_nils, finJ_agg, finJ_own, finJ_sl, finJ_tup, look_cons, reduceCtorEq, evCall_mutOwn, evCall_mutAgg, evGive, giveRows, ioBoxes, mutArgs, roArgs, handArg, mutSlots, isPtrB, pairs, pairss, back_nil, back_cons, backO, backE, setBoxes, importB, mode_mut, mode_give, mode_io, mode_ro, List.zip_cons_cons, List.zip_nil_left, List.zip_nil_right, ite_self, ite_true, ite_false, finish_give, finish_mut1, finish_io0, finish_io2, finish_io3, finish_ioc, finI, finC, finW_ptr, SH, Int.reduceToNat, id_eq, Int.reduceBEq, Int.reduceLE, Int.reduceLT, Nat.reduceAdd, Nat.reduceEqDiff, Nat.reduceLT, Nat.reduceLeDiff, Nat.reduceMul, Nat.reduceSub, reduceIte]
theorem below_lt (bs : List Int) {n : Int} (h0 : 0 < n) (h1 : n ≤ 256) (i : Nat) (h : Int) : 0 ≤ below1 bs n i h ∧ below1 bs n i h < n := by
  have hb := byteAt_le bs i h
  unfold below1
  rw [if_neg (by omega), if_pos h1]
  exact ⟨Int.tmod_nonneg _ hb.1, Int.tmod_lt_of_pos _ h0⟩
theorem r_spec_l1Once {fl : Bool} (k : Nat) (hk : 281474976710656 + 3 ≤ k) (bs : List Int) (hb : bs.length ≤ 140737488355328) (n : Int) (i : Nat) (h : Int) :
    run E noExt k 64 [.ptr 0 0, .int .i64 n] [[.sl fl (bs.map byteA), .int .i64 (i : Nat), .int .i64 h]] = some (.bool (below1 bs n i h == 0), [[.sl fl (bs.map byteA), .int .i64 (belowI bs n i : Nat), .int .i64 (belowH n h)]]) := by
  have c1 := fun n i h => r_spec_l1Below (fl := fl) (k - 1) (by omega) bs hb n i h
  obtain ⟨k, rfl⟩ : ∃ j, k = j + 1 := ⟨k - 1, by omega⟩
  rw [run_succ rfl rfl, body_eq (nt := 9) (fn := Go.Proofs.Tryz.f64) (by kernel_rfl) rfl rfl rfl rfl rfl rfl rfl rfl]
  simp -implicitDefEqProofs only [Nat.add_sub_cancel] at c1
  simp -implicitDefEqProofs only [W3, ↓D3, ↓DA, ↓DP, ↓DC, Go.Proofs.Tryz.f64, c1, look_nil, evCall_io1, evCall_io2, evCall_io3, evCall_io4, finJ_1, finJ_2, finJ_3, finJ_4, finJ_int, finJ_bool, finJ_str, finJ_nils, finJ_agg, finJ_own, finJ_sl, finJ_tup, look_cons, reduceCtorEq, evCall_mutOwn, evCall_mutAgg, evGive, giveRows, ioBoxes, mutArgs, roArgs, handArg, mutSlots, isPtrB, pairs, pairss, back_nil, back_cons, backO, backE, setBoxes, importB, mode_mut, mode_give, mode_io, mode_ro, List.zip_cons_cons, List.zip_nil_left, List.zip_nil_right, ite_self, ite_true, ite_false, finish_give, finish_mut1, finish_io0, finish_io2, finish_io3, finish_ioc, finI, finC, finW_ptr, SH, Int.reduceToNat, id_eq, Int.reduceBEq, Int.reduceLE, Int.reduceLT, Nat.reduceAdd, Nat.reduceEqDiff, Nat.reduceLT, Nat.reduceLeDiff, Nat.reduceMul, Nat.reduceSub, reduceIte]
def oneOf (bs : List Int) (l : List Int) (i : Nat) (h : Int) : Int := l.getD (below1 bs (l.length : Nat) i h).toNat 0
theorem r_spec_l1Int {fl : Bool} (k : Nat) (hk : 281474976710656 + 3 ≤ k) (bs : List Int) (hb : bs.length ≤ 140737488355328) (l : List Int) (hl : 0 < l.length ∧ l.length ≤ 256) (i : Nat) (h : Int) :
    run E noExt k 90 [.ptr 0 0, .sl true (l.map (.int .i64))] [[.sl fl (bs.map byteA), .int .i64 (i : Nat), .int .i64 h]] = some (.int .i64 (oneOf bs l i h), [[.sl fl (bs.map byteA), .int .i64 (belowI bs (l.length : Nat) i : Nat), .int .i64 (belowH (l.length : Nat) h)]]) := by
  have c1 := fun n i h => r_spec_l1Below (fl := fl) (k - 1) (by omega) bs hb n i h
  have hlt := below_lt bs (n := ((l.length : Nat) : Int)) (by omega) (by omega) i h
  obtain ⟨k, rfl⟩ : ∃ j, k = j + 1 := ⟨k - 1, by omega⟩
  rw [run_succ rfl rfl, body_eq (nt := 12) (fn := Go.Proofs.Tryz.f90) (by kernel_rfl) rfl rfl rfl rfl rfl rfl rfl rfl]
  simp -implicitDefEqProofs only [Nat.add_sub_cancel] at c1
  unfold oneOf
  generalize hd : below1 bs ((l.length : Nat) : Int) i h = d at *
  obtain ⟨m, rfl⟩ : ∃ m : Nat, d = (m : Int) := ⟨d.toNat, by omega⟩
  have hm : m < l.length := by omega
  have hx : l[m]? = some l[m] := List.getElem?_eq_getElem hm
  have hx2 : l.getD m 0 = l[m] := by rw [List.getD_eq_getElem?_getD, hx]; rfl
  have hlt2 : ((m : Nat) : Int) < ((l.length : Nat) : Int) := by omega
  simp -implicitDefEqProofs only [W3, ↓D3, ↓DA, ↓DP, ↓DC, Go.Proofs.Tryz.f90, c1, hd, hx, hx2, hlt2, hm, look_nil, evCall_io1, evCall_io2, evCall_io3, evCall_io4, finJ_1, finJ_2, finJ_3, finJ_4, finJ_int, finJ_bool, finJ_str, finJ_nils, finJ_agg, finJ_own, finJ_sl, finJ_tup, look_cons, reduceCtorEq, evCall_mutOwn, evCall_mutAgg, evGive, giveRows, ioBoxes, mutArgs, roArgs, handArg, mutSlots, isPtrB, pairs, pairss, back_nil, back_cons, backO, backE, setBoxes, importB, mode_mut, mode_give, mode_io, mode_ro, List.zip_cons_cons, List.zip_nil_left, List.zip_nil_right, ite_self, ite_true, ite_false, finish_give, finish_mut1, finish_io0, finish_io2, finish_io3, finish_ioc, finI, finC, finW_ptr, SH, Int.reduceToNat, id_eq, Int.reduceBEq, Int.reduceLE, Int.reduceLT, Nat.reduceAdd, Nat.reduceEqDiff, Nat.reduceLT, Nat.reduceLeDiff, Nat.reduceMul, Nat.reduceSub, reduceIte]
theorem ref_bytes {fl : Bool} {bs : List Int} : isRef (.sl fl (bs.map byteA)) = !bs.isEmpty := by cases bs <;> rfl
abbrev Draw (α : Type) := α × Nat × Int
def belowD (bs : List Int) (n : Int) (i : Nat) (h : Int) : Draw Int := (below1 bs n i h, belowI bs n i, belowH n h)
def oneD (bs : List Int) (l : List Int) (i : Nat) (h : Int) : Draw Int := (oneOf bs l i h, belowI bs (l.length : Nat) i, belowH (l.length : Nat) h)
def timeD (bs : List Int) (i : Nat) (h : Int) : Draw Int := match below1 bs 8 i h == 0 with
  | true => oneD bs [-1, 0, 10000, 10001, 9223372036854775807, -9223372036854775808] (belowI bs 8 i) (belowH 8 h)
  | false => belowD bs 40 (belowI bs 8 i) (belowH 8 h)
theorem r_spec_l4Time {fl : Bool} (k : Nat) (hk : 281474976710656 + 4 ≤ k) (bs : List Int) (hb : bs.length ≤ 140737488355328) (i : Nat) (h : Int) :
    run E noExt k 93 [.ptr 0 0] [[.sl fl (bs.map byteA), .int .i64 (i : Nat), .int .i64 h]] = some (.int .i64 (timeD bs i h).1, [[.sl fl (bs.map byteA), .int .i64 ((timeD bs i h).2.1 : Nat), .int .i64 (timeD bs i h).2.2]]) := by
  have c1 := fun n i h => r_spec_l1Below (fl := fl) (k - 1) (by omega) bs hb n i h
  have c2 := fun n i h => r_spec_l1Once (fl := fl) (k - 1) (by omega) bs hb n i h
  have c3 := fun i h => r_spec_l1Int (fl := fl) (k - 1) (by omega) bs hb [-1, 0, 10000, 10001, 9223372036854775807, -9223372036854775808] (by decide) i h
  obtain ⟨k, rfl⟩ : ∃ j, k = j + 1 := ⟨k - 1, by omega⟩
  rw [run_succ rfl rfl, body_eq (nt := 10) (fn := Go.Proofs.Tryz.f93) (by kernel_rfl) rfl rfl rfl rfl rfl rfl rfl rfl]
  simp -implicitDefEqProofs only [Nat.add_sub_cancel, List.map_cons, List.map_nil, List.length_cons, List.length_nil] at c1 c2 c3
  cases he : bs.isEmpty <;> cases hd : below1 bs 8 i h == 0
  all_goals
    simp -implicitDefEqProofs only [W3, ↓D3, ↓DA, ↓ref_bytes, he, timeD, oneD, belowD, Go.Proofs.Tryz.f93, c1, c2, c3, hd, look_nil, evCall_io1, evCall_io2, evCall_io3, evCall_io4, finJ_1, finJ_2, finJ_3, finJ_4, finJ_int, finJ_bool, finJ_str, finJ_nils, finJ_agg, finJ_own, finJ_sl, finJ_tup, look_cons, reduceCtorEq, evCall_mutOwn, evCall_mutAgg, evGive, giveRows, ioBoxes, mutArgs, roArgs, handArg, mutSlots, isPtrB, pairs, pairss, back_nil, back_cons, backO, backE, setBoxes, importB, mode_mut, mode_give, mode_io, mode_ro, List.zip_cons_cons, List.zip_nil_left, List.zip_nil_right, ite_self, ite_true, ite_false, finish_give, finish_mut1, finish_io0, finish_io2, finish_io3, finish_ioc, finI, finC, finW_ptr, SH, noref, isRef, isPtr, noPtr, isBad, AV.isUndef, Int.reduceToNat, id_eq, Int.reduceBEq, Int.reduceLE, Int.reduceLT, AV.cells, AV.isCell, Value.cells, Nat.reduceAdd, Nat.reduceEqDiff, Nat.reduceLT, Nat.reduceLeDiff, Nat.reduceMul, Nat.reduceSub, reduceIte]
def nameD (bs : List Int) (kind : Int) (i : Nat) (h : Int) : Draw Int := (IntKind.i64.wrap (IntKind.i64.wrap (kind * 10) + below1 bs 3 i h), belowI bs 3 i, belowH 3 h)
theorem r_spec_l5Name {fl : Bool} (k : Nat) (hk : 281474976710656 + 4 ≤ k) (bs : List Int) (hb : bs.length ≤ 140737488355328) (kind : Int) (i : Nat) (h : Int) :
    run E noExt k 106 [.ptr 0 0, .int .i64 kind] [[.sl fl (bs.map byteA), .int .i64 (i : Nat), .int .i64 h]] = some (.int .i64 (nameD bs kind i h).1, [[.sl fl (bs.map byteA), .int .i64 ((nameD bs kind i h).2.1 : Nat), .int .i64 (nameD bs kind i h).2.2]]) := by
  have c1 := fun n i h => r_spec_l1Below (fl := fl) (k - 1) (by omega) bs hb n i h
  obtain ⟨k, rfl⟩ : ∃ j, k = j + 1 := ⟨k - 1, by omega⟩
  rw [run_succ rfl rfl, body_eq (nt := 10) (fn := Go.Proofs.Tryz.f106) (by kernel_rfl) rfl rfl rfl rfl rfl rfl rfl rfl]
  simp -implicitDefEqProofs only [Nat.add_sub_cancel] at c1
  simp -implicitDefEqProofs only [W3, ↓D3, ↓DA, ↓DP, ↓DC, nameD, Go.Proofs.Tryz.f106, c1, bne, look_nil, evCall_io1, evCall_io2, evCall_io3, evCall_io4, finJ_1, finJ_2, finJ_3, finJ_4, finJ_int, finJ_bool, finJ_str, finJ_nils, finJ_agg, finJ_own, finJ_sl, finJ_tup, look_cons, reduceCtorEq, evCall_mutOwn, evCall_mutAgg, evGive, giveRows, ioBoxes, mutArgs, roArgs, handArg, mutSlots, isPtrB, pairs, pairss, back_nil, back_cons, backO, backE, setBoxes, importB, mode_mut, mode_give, mode_io, mode_ro, List.zip_cons_cons, List.zip_nil_left, List.zip_nil_right, ite_self, ite_true, ite_false, finish_give, finish_mut1, finish_io0, finish_io2, finish_io3, finish_ioc, finI, finC, finW_ptr, SH, Int.reduceToNat, id_eq, Int.reduceBEq, Int.reduceLE, Int.reduceLT, Nat.reduceAdd, Nat.reduceEqDiff, Nat.reduceLT, Nat.reduceLeDiff, Nat.reduceMul, Nat.reduceSub, reduceIte]
def anyNameD (bs : List Int) (i : Nat) (h : Int) : Draw Int := match below1 bs 6 i h == 0 with
  | true => oneD bs [-1, 9, 10, 49, 50, 19] (belowI bs 6 i) (belowH 6 h)
  | false => nameD bs (IntKind.i64.wrap (1 + below1 bs 4 (belowI bs 6 i) (belowH 6 h))) (belowI bs 4 (belowI bs 6 i)) (belowH 4 (belowH 6 h))
theorem r_spec_l5Any {fl : Bool} (k : Nat) (hk : 281474976710656 + 5 ≤ k) (bs : List Int) (hb : bs.length ≤ 140737488355328) (i : Nat) (h : Int) :
    run E noExt k 91 [.ptr 0 0] [[.sl fl (bs.map byteA), .int .i64 (i : Nat), .int .i64 h]] = some (.int .i64 (anyNameD bs i h).1, [[.sl fl (bs.map byteA), .int .i64 ((anyNameD bs i h).2.1 : Nat), .int .i64 (anyNameD bs i h).2.2]]) := by
  have c1 := fun n i h => r_spec_l1Below (fl := fl) (k - 1) (by omega) bs hb n i h
  have c2 := fun n i h => r_spec_l1Once (fl := fl) (k - 1) (by omega) bs hb n i h
  have c3 := fun i h => r_spec_l1Int (fl := fl) (k - 1) (by omega) bs hb [-1, 9, 10, 49, 50, 19] (by decide) i h
  have c4 := fun n i h => r_spec_l5Name (fl := fl) (k - 1) (by omega) bs hb n i h
  obtain ⟨k, rfl⟩ : ∃ j, k = j + 1 := ⟨k - 1, by omega⟩
  rw [run_succ rfl rfl, body_eq (nt := 13) (fn := Go.Proofs.Tryz.f91) (by kernel_rfl) rfl rfl rfl rfl rfl rfl rfl rfl]
  simp -implicitDefEqProofs only [Nat.add_sub_cancel, List.map_cons, List.map_nil, List.length_cons, List.length_nil] at c1 c2 c3 c4
  cases he : bs.isEmpty <;> cases hd : below1 bs 6 i h == 0
  all_goals
    simp -implicitDefEqProofs only [W3, ↓D3, ↓DA, ↓ref_bytes, he, anyNameD, oneD, Go.Proofs.Tryz.f91, c1, c2, c3, c4, hd, bne, look_nil, evCall_io1, evCall_io2, evCall_io3, evCall_io4, finJ_1, finJ_2, finJ_3, finJ_4, finJ_int, finJ_bool, finJ_str, finJ_nils, finJ_agg, finJ_own, finJ_sl, finJ_tup, look_cons, reduceCtorEq, evCall_mutOwn, evCall_mutAgg, evGive, giveRows, ioBoxes, mutArgs, roArgs, handArg, mutSlots, isPtrB, pairs, pairss, back_nil, back_cons, backO, backE, setBoxes, importB, mode_mut, mode_give, mode_io, mode_ro, List.zip_cons_cons, List.zip_nil_left, List.zip_nil_right, ite_self, ite_true, ite_false, finish_give, finish_mut1, finish_io0, finish_io2, finish_io3, finish_ioc, finI, finC, finW_ptr, SH, noref, isRef, isPtr, noPtr, isBad, AV.isUndef, Int.reduceToNat, id_eq, Int.reduceBEq, Int.reduceLE, Int.reduceLT, AV.cells, AV.isCell, Value.cells, Nat.reduceAdd, Nat.reduceEqDiff, Nat.reduceLT, Nat.reduceLeDiff, Nat.reduceMul, Nat.reduceSub, reduceIte]
def claimOk (kind subject value : Int) : Bool :=
  if (kind == 1) = true then hasKind subject 1 && inR value 0 5 else if (kind == 2) = true then hasKind subject 1 && hasKind value 2 else
  if (kind == 3) = true then hasKind subject 2 && inR value 0 3 else if (kind == 4) = true then hasKind subject 3 && inR value 0 3 else false
def isFact (f : Fact) : Bool := claimOk f.kind f.subject f.value && (inR f.issuer 0 9 && (isT f.at_ && (isT f.until_ && decide (f.at_ ≤ f.until_))))
theorem r_impl_isClaim {fl : Bool} (k : Nat) (hk : 281474976710656 + 5 ≤ k) (x : Fact) : run E noExt k 158 [x.enc fl] [] = some (.bool (claimOk x.kind x.subject x.value), []) := by
  obtain ⟨k, rfl⟩ : ∃ j, k = j + 1 := ⟨k - 1, by omega⟩
  rw [run_succ rfl rfl, body_eq (nt := 45) (fn := Go.Proofs.Tryz.f158) (by kernel_rfl) rfl rfl rfl rfl rfl rfl rfl rfl]
  have c_impl_HasKind := r_impl_HasKind k (by omega)
  have c_impl_InRange := r_impl_InRange k (by omega)
  simp -implicitDefEqProofs only [W1, ↓D1, ↓DC, QX, Go.Proofs.Tryz.f158, c_impl_HasKind, c_impl_InRange, enc_Fact, Int.reduceToNat, id_eq, Int.reduceBEq, Int.reduceLE, Int.reduceLT, Nat.reduceAdd, Nat.reduceEqDiff, Nat.reduceLT, Nat.reduceLeDiff, Nat.reduceMul, Nat.reduceSub, reduceIte]
  repeat' (split <;> (rename_i h; (try simp -implicitDefEqProofs only [Bool.not_eq_true', Bool.not_eq_false', decide_eq_true_eq, decide_eq_false_iff_not] at h); (try simp -implicitDefEqProofs only [W1, ↓D1, ↓DC, QX, *, c_impl_HasKind, c_impl_InRange, enc_Fact, Int.reduceToNat, id_eq, Int.reduceBEq, Int.reduceLE, Int.reduceLT, Nat.reduceAdd, Nat.reduceEqDiff, Nat.reduceLT, Nat.reduceLeDiff, Nat.reduceMul, Nat.reduceSub, reduceIte])))
  all_goals simp -implicitDefEqProofs only [claimOk, *, reduceIte, Bool.false_eq_true, Bool.true_and, Bool.false_and]
set_option maxHeartbeats 4000000 in
theorem r_impl_IsFact {fl : Bool} (k : Nat) (hk : 281474976710656 + 6 ≤ k) (x : Fact) : run E noExt k 142 [x.enc fl] [] = some (.bool (isFact x), []) := by
  have c1 := r_impl_isClaim (fl := fl) (k - 1) (by omega) x
  obtain ⟨k, rfl⟩ : ∃ j, k = j + 1 := ⟨k - 1, by omega⟩
  rw [run_succ rfl rfl, body_eq (nt := 27) (fn := Go.Proofs.Tryz.f142) (by kernel_rfl) rfl rfl rfl rfl rfl rfl rfl rfl]
  simp -implicitDefEqProofs only [Nat.add_sub_cancel, enc_Fact] at c1
  have c_impl_InRange := r_impl_InRange k (by omega)
  have c_impl_IsTime := r_impl_IsTime k (by omega)
  simp -implicitDefEqProofs only [W1, ↓D1, ↓DC, QX, Go.Proofs.Tryz.f142, c_impl_InRange, c_impl_IsTime, enc_Fact, c1, Int.reduceToNat, id_eq, Int.reduceBEq, Int.reduceLE, Int.reduceLT, Nat.reduceAdd, Nat.reduceEqDiff, Nat.reduceLT, Nat.reduceLeDiff, Nat.reduceMul, Nat.reduceSub, reduceIte]
  repeat' (split <;> (rename_i h; (try simp -implicitDefEqProofs only [Bool.not_eq_true', Bool.not_eq_false', decide_eq_true_eq, decide_eq_false_iff_not] at h); (try simp -implicitDefEqProofs only [W1, ↓D1, ↓DC, QX, *, c_impl_InRange, c_impl_IsTime, enc_Fact, c1, Int.reduceToNat, id_eq, Int.reduceBEq, Int.reduceLE, Int.reduceLT, Nat.reduceAdd, Nat.reduceEqDiff, Nat.reduceLT, Nat.reduceLeDiff, Nat.reduceMul, Nat.reduceSub, reduceIte])))
  all_goals simp -implicitDefEqProofs only [isFact, *, Bool.true_and, Bool.false_and, Bool.and_true, Bool.and_false]
set_option maxHeartbeats 4000000 in
theorem r_spec_IsFact {fl : Bool} (k : Nat) (hk : 281474976710656 + 6 ≤ k) (x : Fact) : run E noExt k 109 [x.enc fl] [] = some (.bool (isFact x), []) := by
  obtain ⟨k, rfl⟩ : ∃ j, k = j + 1 := ⟨k - 1, by omega⟩
  rw [run_succ rfl rfl, body_eq (nt := 69) (fn := Go.Proofs.Tryz.f109) (by kernel_rfl) rfl rfl rfl rfl rfl rfl rfl rfl]
  have c_spec_HasKind := r_spec_HasKind k (by omega)
  have c_spec_l1In := r_spec_l1In k (by omega)
  have c_spec_IsTime := r_spec_IsTime k (by omega)
  simp -implicitDefEqProofs only [W1, ↓D1, ↓DC, QX, Go.Proofs.Tryz.f109, c_spec_HasKind, c_spec_l1In, c_spec_IsTime, enc_Fact, Int.reduceToNat, id_eq, Int.reduceBEq, Int.reduceLE, Int.reduceLT, Nat.reduceAdd, Nat.reduceEqDiff, Nat.reduceLT, Nat.reduceLeDiff, Nat.reduceMul, Nat.reduceSub, reduceIte]
  repeat' (split <;> (rename_i h; (try simp -implicitDefEqProofs only [Bool.not_eq_true', Bool.not_eq_false', decide_eq_true_eq, decide_eq_false_iff_not] at h); (try simp -implicitDefEqProofs only [W1, ↓D1, ↓DC, QX, *, c_spec_HasKind, c_spec_l1In, c_spec_IsTime, enc_Fact, Int.reduceToNat, id_eq, Int.reduceBEq, Int.reduceLE, Int.reduceLT, Nat.reduceAdd, Nat.reduceEqDiff, Nat.reduceLT, Nat.reduceLeDiff, Nat.reduceMul, Nat.reduceSub, reduceIte])))
  all_goals simp -implicitDefEqProofs only [isFact, claimOk, *, reduceIte, Bool.false_eq_true, Bool.true_and, Bool.false_and, Bool.and_true, Bool.and_false]
def within (a b n : Int) : Bool := isT a && (isT b && (isT n && inR n a b))
theorem r_impl_IsWithin (k : Nat) (hk : 281474976710656 + 3 ≤ k) (a b n : Int) : run E noExt k 143 [.int .i64 a, .int .i64 b, .int .i64 n] [] = some (.bool (within a b n), []) := by
  obtain ⟨k, rfl⟩ : ∃ j, k = j + 1 := ⟨k - 1, by omega⟩
  rw [run_succ rfl rfl, body_eq (nt := 23) (fn := Go.Proofs.Tryz.f143) (by kernel_rfl) rfl rfl rfl rfl rfl rfl rfl rfl]
  have c_impl_InRange := r_impl_InRange k (by omega)
  have c_impl_IsTime := r_impl_IsTime k (by omega)
  simp -implicitDefEqProofs only [W1, ↓D1, ↓DC, QX, Go.Proofs.Tryz.f143, c_impl_InRange, c_impl_IsTime, Int.reduceToNat, id_eq, Int.reduceBEq, Int.reduceLE, Int.reduceLT, Nat.reduceAdd, Nat.reduceEqDiff, Nat.reduceLT, Nat.reduceLeDiff, Nat.reduceMul, Nat.reduceSub, reduceIte]
  repeat' (split <;> (rename_i h; (try simp -implicitDefEqProofs only [Bool.not_eq_true', Bool.not_eq_false', decide_eq_true_eq, decide_eq_false_iff_not] at h); (try simp -implicitDefEqProofs only [W1, ↓D1, ↓DC, QX, *, c_impl_InRange, c_impl_IsTime, Int.reduceToNat, id_eq, Int.reduceBEq, Int.reduceLE, Int.reduceLT, Nat.reduceAdd, Nat.reduceEqDiff, Nat.reduceLT, Nat.reduceLeDiff, Nat.reduceMul, Nat.reduceSub, reduceIte])))
  all_goals simp -implicitDefEqProofs only [within, *, Bool.true_and, Bool.false_and, Bool.and_true, Bool.and_false]
def ageOf (a n : Int) : Int := if isT a = true then (if isT n = true then (if n < a then -1 else IntKind.i64.wrap (n - a)) else -1) else -1
theorem r_impl_AgeOf (k : Nat) (hk : 281474976710656 + 3 ≤ k) (a n : Int) : run E noExt k 144 [.int .i64 a, .int .i64 n] [] = some (.int .i64 (ageOf a n), []) := by
  obtain ⟨k, rfl⟩ : ∃ j, k = j + 1 := ⟨k - 1, by omega⟩
  rw [run_succ rfl rfl, body_eq (nt := 21) (fn := Go.Proofs.Tryz.f144) (by kernel_rfl) rfl rfl rfl rfl rfl rfl rfl rfl]
  have c_impl_IsTime := r_impl_IsTime k (by omega)
  simp -implicitDefEqProofs only [W1, ↓D1, ↓DC, QX, Go.Proofs.Tryz.f144, c_impl_IsTime, Int.reduceToNat, id_eq, Int.reduceBEq, Int.reduceLE, Int.reduceLT, Nat.reduceAdd, Nat.reduceEqDiff, Nat.reduceLT, Nat.reduceLeDiff, Nat.reduceMul, Nat.reduceSub, reduceIte]
  repeat' (split <;> (rename_i h; (try simp -implicitDefEqProofs only [Bool.not_eq_true', Bool.not_eq_false', decide_eq_true_eq, decide_eq_false_iff_not] at h); (try simp -implicitDefEqProofs only [W1, ↓D1, ↓DC, QX, *, c_impl_IsTime, Int.reduceToNat, id_eq, Int.reduceBEq, Int.reduceLE, Int.reduceLT, Nat.reduceAdd, Nat.reduceEqDiff, Nat.reduceLT, Nat.reduceLeDiff, Nat.reduceMul, Nat.reduceSub, reduceIte])))
  all_goals simp -implicitDefEqProofs only [ageOf, *, reduceIte, Bool.false_eq_true]
def fresh (a n m : Int) : Bool := decide (0 ≤ ageOf a n) && decide (ageOf a n ≤ m)
def holdsAt (f : Fact) (now age : Int) : Bool := isFact f && (within f.at_ f.until_ now && fresh f.at_ now age)
theorem fresh_within {f : Fact} {now age : Int} (h : within f.at_ f.until_ now = true) : fresh f.at_ now age = decide (ageOf f.at_ now ≤ age) := by
  simp -implicitDefEqProofs only [within, Bool.and_eq_true] at h
  obtain ⟨h1, h2, h3, h4⟩ := h
  have a1 : 0 ≤ f.at_ ∧ f.at_ ≤ 10000 := by simpa [isT, inR] using h1
  have a2 : 0 ≤ now ∧ now ≤ 10000 := by simpa [isT, inR] using h3
  have a3 : f.at_ ≤ now ∧ now ≤ f.until_ := by simpa [inR] using h4
  have : 0 ≤ ageOf f.at_ now := by
    unfold ageOf
    rw [if_pos h1, if_pos h3, if_neg (by omega), IntWalk.i64_in _ (by omega)]
    omega
  simp [fresh, this]
theorem r_impl_HoldsAt {fl : Bool} (k : Nat) (hk : 281474976710656 + 7 ≤ k) (x : Fact) (now age : Int) : run E noExt k 125 [x.enc fl, .int .i64 now, .int .i64 age] [] = some (.bool (holdsAt x now age), []) := by
  have c1 := r_impl_IsFact (fl := fl) (k - 1) (by omega) x
  obtain ⟨k, rfl⟩ : ∃ j, k = j + 1 := ⟨k - 1, by omega⟩
  rw [run_succ rfl rfl, body_eq (nt := 25) (fn := Go.Proofs.Tryz.f125) (by kernel_rfl) rfl rfl rfl rfl rfl rfl rfl rfl]
  simp -implicitDefEqProofs only [Nat.add_sub_cancel, enc_Fact] at c1
  have c_impl_IsWithin := r_impl_IsWithin k (by omega)
  have c_impl_AgeOf := r_impl_AgeOf k (by omega)
  simp -implicitDefEqProofs only [W1, ↓D1, ↓DC, QX, Go.Proofs.Tryz.f125, c_impl_IsWithin, c_impl_AgeOf, enc_Fact, c1, Int.reduceToNat, id_eq, Int.reduceBEq, Int.reduceLE, Int.reduceLT, Nat.reduceAdd, Nat.reduceEqDiff, Nat.reduceLT, Nat.reduceLeDiff, Nat.reduceMul, Nat.reduceSub, reduceIte]
  repeat' (split <;> (rename_i h; (try simp -implicitDefEqProofs only [Bool.not_eq_true', Bool.not_eq_false', decide_eq_true_eq, decide_eq_false_iff_not] at h); (try simp -implicitDefEqProofs only [W1, ↓D1, ↓DC, QX, *, c_impl_IsWithin, c_impl_AgeOf, enc_Fact, c1, Int.reduceToNat, id_eq, Int.reduceBEq, Int.reduceLE, Int.reduceLT, Nat.reduceAdd, Nat.reduceEqDiff, Nat.reduceLT, Nat.reduceLeDiff, Nat.reduceMul, Nat.reduceSub, reduceIte])))
  all_goals first
    | (simp -implicitDefEqProofs only [holdsAt, *, Bool.true_and, Bool.false_and, Bool.and_true, Bool.and_false]; done)
    | (simp -implicitDefEqProofs only [holdsAt, fresh_within ‹within x.at_ x.until_ now = true›, *, Bool.true_and, Bool.false_and, Bool.and_true, Bool.and_false]; done)
def bestStep (kind subject now age : Int) (_ : Nat) (f : Fact) (b : Int) : Sum Int Int := .inr (if (f.kind == kind && (f.subject == subject && holdsAt f now age)) = true then (if b < f.value then f.value else b) else b)
def bestValue (s : List Fact) (kind subject now age : Int) : Int := loopL (bestStep kind subject now age) id 0 s (-1)
theorem r_spec_Max (k : Nat) (hk : 281474976710656 + 1 ≤ k) (a b : Int) : run E noExt k 87 [.int .i64 a, .int .i64 b] [] = some (.int .i64 (if a < b then b else a), []) := by
  obtain ⟨k, rfl⟩ : ∃ j, k = j + 1 := ⟨k - 1, by omega⟩
  rw [run_succ rfl rfl, body_eq (nt := 10) (fn := Go.Proofs.Tryz.f87) (by kernel_rfl) rfl rfl rfl rfl rfl rfl rfl rfl]
  simp -implicitDefEqProofs only [W1, ↓D1, ↓DC, QX, Go.Proofs.Tryz.f87, Int.reduceToNat, id_eq, Int.reduceBEq, Int.reduceLE, Int.reduceLT, Nat.reduceAdd, Nat.reduceEqDiff, Nat.reduceLT, Nat.reduceLeDiff, Nat.reduceMul, Nat.reduceSub, reduceIte]
  repeat' (split <;> (rename_i h; (try simp -implicitDefEqProofs only [Bool.not_eq_true', Bool.not_eq_false', decide_eq_true_eq, decide_eq_false_iff_not] at h); (try simp -implicitDefEqProofs only [W1, ↓D1, ↓DC, QX, *, Int.reduceToNat, id_eq, Int.reduceBEq, Int.reduceLE, Int.reduceLT, Nat.reduceAdd, Nat.reduceEqDiff, Nat.reduceLT, Nat.reduceLeDiff, Nat.reduceMul, Nat.reduceSub, reduceIte])))
  all_goals simp -implicitDefEqProofs only [*, reduceIte]
theorem r_impl_BestValue {fl : Bool} (k : Nat) (hk : 281474976710656 + 8 ≤ k) (s : List Fact) (hs : s.length ≤ 140737488355328) (kind subject now age : Int) :
    run E noExt k 103 [.sl fl (s.map (Fact.enc fl)), .int .i64 kind, .int .i64 subject, .int .i64 now, .int .i64 age] [] = some (.int .i64 (bestValue s kind subject now age), []) := by
  have c1 := r_impl_HoldsAt (fl := true) (k - 1) (by omega)
  obtain ⟨k, rfl⟩ : ∃ j, k = j + 1 := ⟨k - 1, by omega⟩
  rw [run_succ rfl rfl, body_eq (nt := 42) (fn := Go.Proofs.Tryz.f103) (by kernel_rfl) rfl rfl rfl rfl rfl rfl rfl rfl]
  simp -implicitDefEqProofs only [Nat.add_sub_cancel, enc_Fact] at c1
  simp -implicitDefEqProofs only [W1, ↓D1, ↓DC, Go.Proofs.Tryz.f103, Int.reduceToNat, id_eq, Int.reduceBEq, Int.reduceLE, Int.reduceLT, Nat.reduceAdd, Nat.reduceEqDiff, Nat.reduceLT, Nat.reduceLeDiff, Nat.reduceMul, Nat.reduceSub, reduceIte]
  rw [ev_loop]
  refine Eq.trans (loop_list (Q := fun g x => thenEnd E.P [] _ 0 (thenEv E _ _ _ _ _ (outOf 0 x)) = some (.int .i64 g, [])) (s) (bestStep kind subject now age) (id)
    (fun i b => { sl := [(1, .int .i64 kind), (2, .int .i64 subject), (3, .int .i64 now), (4, .int .i64 age), (11, .int .i64 b), (14, .sl fl (s.map (Fact.enc fl))), (15, .int .i64 (s.length : Nat)), (16, .int .i64 (i : Nat))], bx := [], nx := 0, nt := 42 }) (fun _ _ => True) ((-1)) ?_ ?_ (by first | omega | (simp; omega)) (trivial) ?_) ?_
  · intro b hb
    simp -implicitDefEqProofs only [W2, ↓D2, ↓DC, QX, leaf_some, isNormal, Int.reduceToNat, id_eq, Int.reduceBEq, Int.reduceLE, Int.reduceLT, Nat.reduceAdd, Nat.reduceEqDiff, Nat.reduceLT, Nat.reduceLeDiff, Nat.reduceMul, Nat.reduceSub, reduceIte]
    repeat' (split <;> (rename_i h; (try simp -implicitDefEqProofs only [Bool.not_eq_true', Bool.not_eq_false', decide_eq_true_eq, decide_eq_false_iff_not] at h); (try simp -implicitDefEqProofs only [W2, ↓D2, ↓DC, QX, *, leaf_some, isNormal, Int.reduceToNat, id_eq, Int.reduceBEq, Int.reduceLE, Int.reduceLT, Nat.reduceAdd, Nat.reduceEqDiff, Nat.reduceLT, Nat.reduceLeDiff, Nat.reduceMul, Nat.reduceSub, reduceIte])))
  · intro pre x r b hs' hb
    have hx := (at_row hs' hs).1; have hc := (at_row hs' hs).2.1; have hlt := (at_row hs' hs).2.2.1; have hw1 := (at_row hs' hs).2.2.2.1; have hl9 := (at_row hs' hs).2.2.2.2
    clear hs'
    have c3 := c1 x now age
    generalize hv : holdsAt x now age = v at c3
    have hst : bestStep kind subject now age pre.length x b = .inr (if (x.kind == kind && (x.subject == subject && v)) = true then (if b < x.value then x.value else b) else b) := by rw [← hv]; rfl
    cases h1 : (x.kind == kind) with
    | false =>
      simp -implicitDefEqProofs only [h1, Bool.and_true, Bool.true_and, Bool.false_and, Bool.and_false, Bool.false_eq_true, if_false, if_true] at hst
      simp -implicitDefEqProofs only [W2, ↓D2, ↓DC, QX, enc_Fact, hx, hlt, hw1, c3, h1, hst, GT.gt, keep_103_3, leaf_some, isNormal, Int.reduceToNat, id_eq, Int.reduceBEq, Int.reduceLE, Int.reduceLT, Nat.reduceAdd, Nat.reduceEqDiff, Nat.reduceLT, Nat.reduceLeDiff, Nat.reduceMul, Nat.reduceSub, reduceIte]
      repeat' (split <;> (rename_i h; (try simp -implicitDefEqProofs only [Bool.not_eq_true', Bool.not_eq_false', decide_eq_true_eq, decide_eq_false_iff_not] at h); (try simp -implicitDefEqProofs only [W2, ↓D2, ↓DC, QX, *, enc_Fact, hx, hlt, hw1, c3, h1, hst, GT.gt, keep_103_3, leaf_some, isNormal, Int.reduceToNat, id_eq, Int.reduceBEq, Int.reduceLE, Int.reduceLT, Nat.reduceAdd, Nat.reduceEqDiff, Nat.reduceLT, Nat.reduceLeDiff, Nat.reduceMul, Nat.reduceSub, reduceIte])))
    | true =>
      cases h2 : (x.subject == subject) with
      | false =>
        simp -implicitDefEqProofs only [h1, h2, Bool.and_true, Bool.true_and, Bool.false_and, Bool.and_false, Bool.false_eq_true, if_false, if_true] at hst
        simp -implicitDefEqProofs only [W2, ↓D2, ↓DC, QX, enc_Fact, hx, hlt, hw1, c3, h1, h2, hst, GT.gt, keep_103_3, leaf_some, isNormal, Int.reduceToNat, id_eq, Int.reduceBEq, Int.reduceLE, Int.reduceLT, Nat.reduceAdd, Nat.reduceEqDiff, Nat.reduceLT, Nat.reduceLeDiff, Nat.reduceMul, Nat.reduceSub, reduceIte]
        repeat' (split <;> (rename_i h; (try simp -implicitDefEqProofs only [Bool.not_eq_true', Bool.not_eq_false', decide_eq_true_eq, decide_eq_false_iff_not] at h); (try simp -implicitDefEqProofs only [W2, ↓D2, ↓DC, QX, *, enc_Fact, hx, hlt, hw1, c3, h1, h2, hst, GT.gt, keep_103_3, leaf_some, isNormal, Int.reduceToNat, id_eq, Int.reduceBEq, Int.reduceLE, Int.reduceLT, Nat.reduceAdd, Nat.reduceEqDiff, Nat.reduceLT, Nat.reduceLeDiff, Nat.reduceMul, Nat.reduceSub, reduceIte])))
      | true =>
        cases v with
        | false =>
          simp -implicitDefEqProofs only [h1, h2, Bool.and_true, Bool.true_and, Bool.false_and, Bool.and_false, Bool.false_eq_true, if_false, if_true] at hst
          simp -implicitDefEqProofs only [W2, ↓D2, ↓DC, QX, enc_Fact, hx, hlt, hw1, c3, h1, h2, hst, GT.gt, keep_103_3, leaf_some, isNormal, Int.reduceToNat, id_eq, Int.reduceBEq, Int.reduceLE, Int.reduceLT, Nat.reduceAdd, Nat.reduceEqDiff, Nat.reduceLT, Nat.reduceLeDiff, Nat.reduceMul, Nat.reduceSub, reduceIte]
          repeat' (split <;> (rename_i h; (try simp -implicitDefEqProofs only [Bool.not_eq_true', Bool.not_eq_false', decide_eq_true_eq, decide_eq_false_iff_not] at h); (try simp -implicitDefEqProofs only [W2, ↓D2, ↓DC, QX, *, enc_Fact, hx, hlt, hw1, c3, h1, h2, hst, GT.gt, keep_103_3, leaf_some, isNormal, Int.reduceToNat, id_eq, Int.reduceBEq, Int.reduceLE, Int.reduceLT, Nat.reduceAdd, Nat.reduceEqDiff, Nat.reduceLT, Nat.reduceLeDiff, Nat.reduceMul, Nat.reduceSub, reduceIte])))
        | true =>
          simp -implicitDefEqProofs only [h1, h2, Bool.and_true, Bool.true_and, Bool.false_and, Bool.and_false, Bool.false_eq_true, if_false, if_true] at hst
          simp -implicitDefEqProofs only [W2, ↓D2, ↓DC, QX, enc_Fact, hx, hlt, hw1, c3, h1, h2, hst, GT.gt, keep_103_3, leaf_some, isNormal, Int.reduceToNat, id_eq, Int.reduceBEq, Int.reduceLE, Int.reduceLT, Nat.reduceAdd, Nat.reduceEqDiff, Nat.reduceLT, Nat.reduceLeDiff, Nat.reduceMul, Nat.reduceSub, reduceIte]
          repeat' (split <;> (rename_i h; (try simp -implicitDefEqProofs only [Bool.not_eq_true', Bool.not_eq_false', decide_eq_true_eq, decide_eq_false_iff_not] at h); (try simp -implicitDefEqProofs only [W2, ↓D2, ↓DC, QX, *, enc_Fact, hx, hlt, hw1, c3, h1, h2, hst, GT.gt, keep_103_3, leaf_some, isNormal, Int.reduceToNat, id_eq, Int.reduceBEq, Int.reduceLE, Int.reduceLT, Nat.reduceAdd, Nat.reduceEqDiff, Nat.reduceLT, Nat.reduceLeDiff, Nat.reduceMul, Nat.reduceSub, reduceIte])))
  · simp -implicitDefEqProofs only [firstRegion]; rw [keep_103_3]; simp -implicitDefEqProofs only [W2, ↓D2, ↓DC, Int.reduceToNat, id_eq, Int.reduceBEq, Int.reduceLE, Int.reduceLT, Nat.reduceAdd, Nat.reduceEqDiff, Nat.reduceLT, Nat.reduceLeDiff, Nat.reduceMul, Nat.reduceSub, reduceIte]; first | done | rfl
  · rfl
def factIs (kind subject value now age : Int) (f : Fact) : Bool := f.kind == kind && (f.subject == subject && (f.value == value && holdsAt f now age))
def findFact (s : List Fact) (kind subject value now age : Int) : Int := indexBy (factIs kind subject value now age) 0 s
theorem r_impl_FindFact {fl : Bool} (k : Nat) (hk : 281474976710656 + 10 ≤ k) (s : List Fact) (hs : s.length ≤ 140737488355328) (kind subject value now age : Int) :
    run E noExt k 102 [.sl fl (s.map (Fact.enc fl)), .int .i64 kind, .int .i64 subject, .int .i64 value, .int .i64 now, .int .i64 age] [] = some (.int .i64 (findFact s kind subject value now age), []) := by
  have c0 : ∀ x : Fact, run E noExt (k - 1 - 1) 124 ([x.enc fl] ++ [.cptr [.int .i64 kind], .cptr [.int .i64 subject], .cptr [.int .i64 value], .cptr [.int .i64 now], .cptr [.int .i64 age]]) [] = some (.bool (factIs kind subject value now age x), []) := by
    intro x
    have c1 := r_impl_HoldsAt (fl := fl) (k - 3) (by omega) x now age
    rw [show k - 1 - 1 = (k - 3) + 1 by omega]
    rw [run_succ rfl rfl, body_eq (nt := 30) (fn := Go.Proofs.Tryz.f124) (by kernel_rfl) rfl rfl rfl rfl rfl rfl rfl rfl]
    generalize hv : holdsAt x now age = v at c1
    have hst : factIs kind subject value now age x = (x.kind == kind && (x.subject == subject && (x.value == value && v))) := by rw [← hv]; rfl
    simp -implicitDefEqProofs only [enc_Fact] at c1 ⊢
    rw [hst]
    cases h1 : (x.kind == kind) <;> cases h2 : (x.subject == subject) <;> cases h3 : (x.value == value) <;> simp -implicitDefEqProofs only [W1, ↓D1, ↓DC, Go.Proofs.Tryz.f124, c1, h1, h2, h3, Int.reduceToNat, id_eq, Int.reduceBEq, Int.reduceLE, Int.reduceLT, Nat.reduceAdd, Nat.reduceEqDiff, Nat.reduceLT, Nat.reduceLeDiff, Nat.reduceMul, Nat.reduceSub, reduceIte]
  have c2 := r_slices_IndexFunc_Fact (fl := fl) (k - 1) s (by omega) hs 124 [.cptr [.int .i64 kind], .cptr [.int .i64 subject], .cptr [.int .i64 value], .cptr [.int .i64 now], .cptr [.int .i64 age]] (plain_of rfl) (factIs kind subject value now age) (fun x _ => c0 x)
  obtain ⟨k, rfl⟩ : ∃ j, k = j + 1 := ⟨k - 1, by omega⟩
  rw [run_succ rfl rfl, body_eq (nt := 16) (fn := Go.Proofs.Tryz.f102) (by kernel_rfl) rfl rfl rfl rfl rfl rfl rfl rfl]
  simp -implicitDefEqProofs only [Nat.add_sub_cancel] at c2
  simp -implicitDefEqProofs only [W1, ↓D1, ↓DC, Go.Proofs.Tryz.f102, c2, Int.reduceToNat, id_eq, Int.reduceBEq, Int.reduceLE, Int.reduceLT, Nat.reduceAdd, Nat.reduceEqDiff, Nat.reduceLT, Nat.reduceLeDiff, Nat.reduceMul, Nat.reduceSub, reduceIte]
  rfl
end Go.Proofs.YtaojmienjikfbaaGreatDoor.Flat
