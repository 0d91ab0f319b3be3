/-
The draws: the cursor.
-/
import Derived.Test.YtokjpncehggojaaGreatEqL
import Derived.Test.YtokjpncehggojaaGreatEqIOB
set_option linter.unusedVariables false
set_option linter.unusedSimpArgs false
set_option maxRecDepth 10000
namespace Go.Proofs.YtokjpncehggojaaGreat.Flat
def byteA (z : Int) : AV := .int .u8 z
theorem byteA_eq {z : Int} : byteA z = .int .u8 z := rfl
theorem and_255 (x : Int) : 0 ≤ bits .and .i64 x 255 ∧ bits .and .i64 x 255 ≤ 255 := by
  unfold bits
  simp only
  have h : ((BitVec.ofInt IntKind.i64.bits x) &&& (BitVec.ofInt IntKind.i64.bits 255)).toNat ≤ 255 := by
    rw [BitVec.toNat_and]
    exact Nat.le_trans Nat.and_le_right (by decide)
  rw [IntWalk.i64_in _ (by omega)]
  omega
theorem conv_u8 {x : Int} : evConvert E.P 5 3 (.int .u8 x) = some (.int .i64 (IntKind.i64.wrap x)) := by kernel_rfl
def nextH (h : Int) : Int := IntKind.i64.wrap (IntKind.i64.wrap (h * 6364136223846793005) + 1442695040888963407)
def shrI (n : Nat) (x : Int) : Int := x.fdiv (2 ^ n)
theorem shr33 {P : Program} {t : Nat} {x : Int} : evBin2 P .shr t (.int .i64 x) (.int .u64 33) = some (.int .i64 (shrI 33 x)) := rfl
theorem shr47 {P : Program} {t : Nat} {x : Int} : evBin2 P .shr t (.int .i64 x) (.int .u64 47) = some (.int .i64 (shrI 47 x)) := rfl
theorem xorI {P : Program} {t : Nat} {x y : Int} : evBin2 P .xor t (.int .i64 x) (.int .i64 y) = some (.int .i64 (bits .xor .i64 x y)) := rfl
theorem andI {P : Program} {t : Nat} {x y : Int} : evBin2 P .and t (.int .i64 x) (.int .i64 y) = some (.int .i64 (bits .and .i64 x y)) := rfl
def rawB (h : Int) : Int := bits .and .i64 (bits .xor .i64 (shrI 33 (nextH h)) (shrI 47 (nextH h))) 255
def byteAt (bs : List Int) (i : Nat) (h : Int) : Int := match bs[i]? with
  | some z => bits .and .i64 (IntKind.i64.wrap (rawB h + IntKind.i64.wrap z)) 255
  | none => rawB h
def nextI (bs : List Int) (i : Nat) : Nat := match bs[i]? with
  | some _ => i + 1
  | none => i
theorem byteAt_le (bs : List Int) (i : Nat) (h : Int) : 0 ≤ byteAt bs i h ∧ byteAt bs i h ≤ 255 := by
  unfold byteAt
  split <;> exact and_255 _
theorem r_spec_l1Byte {fl : Bool} (k : Nat) (hk : 281474976710656 + 1 ≤ k) (bs : List Int) (hb : bs.length ≤ 140737488355328) (i : Nat) (h : Int) :
    run E noExt k 59 [.ptr 0 0] [[.sl fl (bs.map byteA), .int .i64 (i : Nat), .int .i64 h]] = some (.int .i64 (byteAt bs i h), [[.sl fl (bs.map byteA), .int .i64 (nextI bs i : Nat), .int .i64 (nextH h)]]) := by
  obtain ⟨k, rfl⟩ : ∃ j, k = j + 1 := ⟨k - 1, by omega⟩
  rw [run_succ rfl rfl, body_eq (nt := 58) (fn := Go.Proofs.Tryz.f59) (by kernel_rfl) rfl rfl rfl rfl rfl rfl rfl rfl]
  rcases Nat.lt_or_ge i bs.length with hi | hi
  · have hx : bs[i]? = some bs[i] := List.getElem?_eq_getElem hi
    have hx2 : (bs.map byteA)[i]? = some (.int .u8 bs[i]) := by rw [List.getElem?_map, hx]; rfl
    have hlt : ((i : Nat) : Int) < ((bs.length : Nat) : Int) := by omega
    have hw : IntKind.i64.wrap (((i : Nat) : Int) + 1) = ((i + 1 : Nat) : Int) := by rw [IntWalk.i64_in _ (by omega)]; omega
    simp -implicitDefEqProofs only [W3, ↓D3, ↓DA, ↓DP, ↓DC, byteAt, nextI, hx, Go.Proofs.Tryz.f59, plan_59_2, plan_59_3, plan_59_4, hlt, hw, shr33, shr47, xorI, andI, byteA_eq, rawB, nextH, op_convert, conv_u8, look_nil, evCall_io1, evCall_io2, evCall_io3, evCall_io4, finJ_1, finJ_2, finJ_3, finJ_4, finJ_int, finJ_bool, finJ_str, finJ_nils, finJ_agg, finJ_own, finJ_sl, finJ_tup, look_cons, reduceCtorEq, evCall_mutOwn, evCall_mutAgg, evGive, giveRows, ioBoxes, mutArgs, roArgs, handArg, mutSlots, isPtrB, pairs, pairss, back_nil, back_cons, backO, backE, setBoxes, importB, mode_mut, mode_give, mode_io, mode_ro, List.zip_cons_cons, List.zip_nil_left, List.zip_nil_right, ite_self, ite_true, ite_false, finish_give, finish_mut1, finish_io0, finish_io2, finish_io3, finish_ioc, finI, finC, finW_ptr, SH, Int.reduceToNat, id_eq, Int.reduceBEq, Int.reduceLE, Int.reduceLT, Nat.reduceAdd, Nat.reduceEqDiff, Nat.reduceLT, Nat.reduceLeDiff, Nat.reduceMul, Nat.reduceSub, reduceIte]
  · have hx : bs[i]? = none := List.getElem?_eq_none hi
    have hlt : ¬ ((i : Nat) : Int) < ((bs.length : Nat) : Int) := by omega
    simp -implicitDefEqProofs only [W3, ↓D3, ↓DA, ↓DP, ↓DC, byteAt, nextI, hx, Go.Proofs.Tryz.f59, plan_59_2, plan_59_3, plan_59_4, hlt, shr33, shr47, xorI, andI, byteA_eq, rawB, nextH, op_convert, conv_u8, look_nil, evCall_io1, evCall_io2, evCall_io3, evCall_io4, finJ_1, finJ_2, finJ_3, finJ_4, finJ_int, finJ_bool, finJ_str, finJ_nils, finJ_agg, finJ_own, finJ_sl, finJ_tup, look_cons, reduceCtorEq, evCall_mutOwn, evCall_mutAgg, evGive, giveRows, ioBoxes, mutArgs, roArgs, handArg, mutSlots, isPtrB, pairs, pairss, back_nil, back_cons, backO, backE, setBoxes, importB, mode_mut, mode_give, mode_io, mode_ro, List.zip_cons_cons, List.zip_nil_left, List.zip_nil_right, ite_self, ite_true, ite_false, finish_give, finish_mut1, finish_io0, finish_io2, finish_io3, finish_ioc, finI, finC, finW_ptr, SH, Int.reduceToNat, id_eq, Int.reduceBEq, Int.reduceLE, Int.reduceLT, Nat.reduceAdd, Nat.reduceEqDiff, Nat.reduceLT, Nat.reduceLeDiff, Nat.reduceMul, Nat.reduceSub, reduceIte]
def below1 (bs : List Int) (n : Int) (i : Nat) (h : Int) : Int := if n ≤ 0 then 0 else if n ≤ 256 then (byteAt bs i h).tmod n else
  (IntKind.i64.wrap (IntKind.i64.wrap (IntKind.i64.wrap (byteAt bs i h * 65536) + IntKind.i64.wrap (byteAt bs (nextI bs i) (nextH h) * 256)) + byteAt bs (nextI bs (nextI bs i)) (nextH (nextH h)))).tmod n
def belowI (bs : List Int) (n : Int) (i : Nat) : Nat := if n ≤ 0 then i else if n ≤ 256 then nextI bs i else nextI bs (nextI bs (nextI bs i))
def belowH (n : Int) (h : Int) : Int := if n ≤ 0 then h else if n ≤ 256 then nextH h else nextH (nextH (nextH h))
theorem r_spec_l1Below {fl : Bool} (k : Nat) (hk : 281474976710656 + 2 ≤ k) (bs : List Int) (hb : bs.length ≤ 140737488355328) (n : Int) (i : Nat) (h : Int) :
    run E noExt k 26 [.ptr 0 0, .int .i64 n] [[.sl fl (bs.map byteA), .int .i64 (i : Nat), .int .i64 h]] = some (.int .i64 (below1 bs n i h), [[.sl fl (bs.map byteA), .int .i64 (belowI bs n i : Nat), .int .i64 (belowH n h)]]) := by
  have c1 := fun i h => r_spec_l1Byte (fl := fl) (k - 1) (by omega) bs hb i h
  obtain ⟨k, rfl⟩ : ∃ j, k = j + 1 := ⟨k - 1, by omega⟩
  rw [run_succ rfl rfl, body_eq (nt := 31) (fn := Go.Proofs.Tryz.f26) (by kernel_rfl) rfl rfl rfl rfl rfl rfl rfl rfl]
  simp -implicitDefEqProofs only [Nat.add_sub_cancel] at c1
  rcases Classical.em (n ≤ 0) with h0 | h0
  · simp -implicitDefEqProofs only [W3, ↓D3, ↓DA, ↓DP, ↓DC, below1, belowI, belowH, Go.Proofs.Tryz.f26, h0, c1, look_nil, evCall_io1, evCall_io2, evCall_io3, evCall_io4, finJ_1, finJ_2, finJ_3, finJ_4, finJ_int, finJ_bool, finJ_str, finJ_nils, finJ_agg, finJ_own, finJ_sl, finJ_tup, look_cons, reduceCtorEq, evCall_mutOwn, evCall_mutAgg, evGive, giveRows, ioBoxes, mutArgs, roArgs, handArg, mutSlots, isPtrB, pairs, pairss, back_nil, back_cons, backO, backE, setBoxes, importB, mode_mut, mode_give, mode_io, mode_ro, List.zip_cons_cons, List.zip_nil_left, List.zip_nil_right, ite_self, ite_true, ite_false, finish_give, finish_mut1, finish_io0, finish_io2, finish_io3, finish_ioc, finI, finC, finW_ptr, SH, Int.reduceToNat, id_eq, Int.reduceBEq, Int.reduceLE, Int.reduceLT, Nat.reduceAdd, Nat.reduceEqDiff, Nat.reduceLT, Nat.reduceLeDiff, Nat.reduceMul, Nat.reduceSub, reduceIte]
  rcases Classical.em (n ≤ 256) with h1 | h1
  · have hn : ∀ t x, evBin2 E.P .rem t (.int .i64 x) (.int .i64 n) = some (.int .i64 (x.tmod n)) := fun t x => by
      have h9 : ¬ n = 0 := by omega
      simp [evBin2, evBin, evInt, h9]
    simp -implicitDefEqProofs only [W3, ↓D3, ↓DA, ↓DP, ↓DC, below1, belowI, belowH, Go.Proofs.Tryz.f26, h0, h1, hn, c1, look_nil, evCall_io1, evCall_io2, evCall_io3, evCall_io4, finJ_1, finJ_2, finJ_3, finJ_4, finJ_int, finJ_bool, finJ_str, finJ_nils, finJ_agg, finJ_own, finJ_sl, finJ_tup, look_cons, reduceCtorEq, evCall_mutOwn, evCall_mutAgg, evGive, giveRows, ioBoxes, mutArgs, roArgs, handArg, mutSlots, isPtrB, pairs, pairss, back_nil, back_cons, backO, backE, setBoxes, importB, mode_mut, mode_give, mode_io, mode_ro, List.zip_cons_cons, List.zip_nil_left, List.zip_nil_right, ite_self, ite_true, ite_false, finish_give, finish_mut1, finish_io0, finish_io2, finish_io3, finish_ioc, finI, finC, finW_ptr, SH, Int.reduceToNat, id_eq, Int.reduceBEq, Int.reduceLE, Int.reduceLT, Nat.reduceAdd, Nat.reduceEqDiff, Nat.reduceLT, Nat.reduceLeDiff, Nat.reduceMul, Nat.reduceSub, reduceIte]
  · have hn : ∀ t x, evBin2 E.P .rem t (.int .i64 x) (.int .i64 n) = some (.int .i64 (x.tmod n)) := fun t x => by
      have h9 : ¬ n = 0 := by omega
      simp [evBin2, evBin, evInt, h9]
    simp -implicitDefEqProofs only [W3, ↓D3, ↓DA, ↓DP, ↓DC, below1, belowI, belowH, Go.Proofs.Tryz.f26, h0, h1, hn, c1, look_nil, evCall_io1, evCall_io2, evCall_io3, evCall_io4, finJ_1, finJ_2, finJ_3, finJ_4, finJ_int, finJ_bool, finJ_str, finJ_nils, finJ_agg, finJ_own, finJ_sl, finJ_tup, look_cons, reduceCtorEq, evCall_mutOwn, evCall_mutAgg, evGive, giveRows, ioBoxes, mutArgs, roArgs, handArg, mutSlots, isPtrB, pairs, pairss, back_nil, back_cons, backO, backE, setBoxes, importB, mode_mut, mode_give, mode_io, mode_ro, List.zip_cons_cons, List.zip_nil_left, List.zip_nil_right, ite_self, ite_true, ite_false, finish_give, finish_mut1, finish_io0, finish_io2, finish_io3, finish_ioc, finI, finC, finW_ptr, SH, Int.reduceToNat, id_eq, Int.reduceBEq, Int.reduceLE, Int.reduceLT, Nat.reduceAdd, Nat.reduceEqDiff, Nat.reduceLT, Nat.reduceLeDiff, Nat.reduceMul, Nat.reduceSub, reduceIte]
theorem below_lt (bs : List Int) {n : Int} (h0 : 0 < n) (h1 : n ≤ 256) (i : Nat) (h : Int) : 0 ≤ below1 bs n i h ∧ below1 bs n i h < n := by
  have hb := byteAt_le bs i h
  unfold below1
  rw [if_neg (by omega), if_pos h1]
  exact ⟨Int.tmod_nonneg _ hb.1, Int.tmod_lt_of_pos _ h0⟩
theorem r_spec_l1Once {fl : Bool} (k : Nat) (hk : 281474976710656 + 3 ≤ k) (bs : List Int) (hb : bs.length ≤ 140737488355328) (n : Int) (i : Nat) (h : Int) :
    run E noExt k 29 [.ptr 0 0, .int .i64 n] [[.sl fl (bs.map byteA), .int .i64 (i : Nat), .int .i64 h]] = some (.bool (below1 bs n i h == 0), [[.sl fl (bs.map byteA), .int .i64 (belowI bs n i : Nat), .int .i64 (belowH n h)]]) := by
  have c1 := fun n i h => r_spec_l1Below (fl := fl) (k - 1) (by omega) bs hb n i h
  obtain ⟨k, rfl⟩ : ∃ j, k = j + 1 := ⟨k - 1, by omega⟩
  rw [run_succ rfl rfl, body_eq (nt := 9) (fn := Go.Proofs.Tryz.f29) (by kernel_rfl) rfl rfl rfl rfl rfl rfl rfl rfl]
  simp -implicitDefEqProofs only [Nat.add_sub_cancel] at c1
  simp -implicitDefEqProofs only [W3, ↓D3, ↓DA, ↓DP, ↓DC, Go.Proofs.Tryz.f29, c1, look_nil, evCall_io1, evCall_io2, evCall_io3, evCall_io4, finJ_1, finJ_2, finJ_3, finJ_4, finJ_int, finJ_bool, finJ_str, finJ_nils, finJ_agg, finJ_own, finJ_sl, finJ_tup, look_cons, reduceCtorEq, evCall_mutOwn, evCall_mutAgg, evGive, giveRows, ioBoxes, mutArgs, roArgs, handArg, mutSlots, isPtrB, pairs, pairss, back_nil, back_cons, backO, backE, setBoxes, importB, mode_mut, mode_give, mode_io, mode_ro, List.zip_cons_cons, List.zip_nil_left, List.zip_nil_right, ite_self, ite_true, ite_false, finish_give, finish_mut1, finish_io0, finish_io2, finish_io3, finish_ioc, finI, finC, finW_ptr, SH, Int.reduceToNat, id_eq, Int.reduceBEq, Int.reduceLE, Int.reduceLT, Nat.reduceAdd, Nat.reduceEqDiff, Nat.reduceLT, Nat.reduceLeDiff, Nat.reduceMul, Nat.reduceSub, reduceIte]
def oneOf (bs : List Int) (l : List Int) (i : Nat) (h : Int) : Int := l.getD (below1 bs (l.length : Nat) i h).toNat 0
theorem r_spec_l1Int {fl : Bool} (k : Nat) (hk : 281474976710656 + 3 ≤ k) (bs : List Int) (hb : bs.length ≤ 140737488355328) (l : List Int) (hl : 0 < l.length ∧ l.length ≤ 256) (i : Nat) (h : Int) :
    run E noExt k 60 [.ptr 0 0, .sl true (l.map (.int .i64))] [[.sl fl (bs.map byteA), .int .i64 (i : Nat), .int .i64 h]] = some (.int .i64 (oneOf bs l i h), [[.sl fl (bs.map byteA), .int .i64 (belowI bs (l.length : Nat) i : Nat), .int .i64 (belowH (l.length : Nat) h)]]) := by
  have c1 := fun n i h => r_spec_l1Below (fl := fl) (k - 1) (by omega) bs hb n i h
  have hlt := below_lt bs (n := ((l.length : Nat) : Int)) (by omega) (by omega) i h
  obtain ⟨k, rfl⟩ : ∃ j, k = j + 1 := ⟨k - 1, by omega⟩
  rw [run_succ rfl rfl, body_eq (nt := 12) (fn := Go.Proofs.Tryz.f60) (by kernel_rfl) rfl rfl rfl rfl rfl rfl rfl rfl]
  simp -implicitDefEqProofs only [Nat.add_sub_cancel] at c1
  unfold oneOf
  generalize hd : below1 bs ((l.length : Nat) : Int) i h = d at *
  obtain ⟨m, rfl⟩ : ∃ m : Nat, d = (m : Int) := ⟨d.toNat, by omega⟩
  have hm : m < l.length := by omega
  have hx : l[m]? = some l[m] := List.getElem?_eq_getElem hm
  have hx2 : l.getD m 0 = l[m] := by rw [List.getD_eq_getElem?_getD, hx]; rfl
  have hlt2 : ((m : Nat) : Int) < ((l.length : Nat) : Int) := by omega
  simp -implicitDefEqProofs only [W3, ↓D3, ↓DA, ↓DP, ↓DC, Go.Proofs.Tryz.f60, c1, hd, hx, hx2, hlt2, hm, look_nil, evCall_io1, evCall_io2, evCall_io3, evCall_io4, finJ_1, finJ_2, finJ_3, finJ_4, finJ_int, finJ_bool, finJ_str, finJ_nils, finJ_agg, finJ_own, finJ_sl, finJ_tup, look_cons, reduceCtorEq, evCall_mutOwn, evCall_mutAgg, evGive, giveRows, ioBoxes, mutArgs, roArgs, handArg, mutSlots, isPtrB, pairs, pairss, back_nil, back_cons, backO, backE, setBoxes, importB, mode_mut, mode_give, mode_io, mode_ro, List.zip_cons_cons, List.zip_nil_left, List.zip_nil_right, ite_self, ite_true, ite_false, finish_give, finish_mut1, finish_io0, finish_io2, finish_io3, finish_ioc, finI, finC, finW_ptr, SH, Int.reduceToNat, id_eq, Int.reduceBEq, Int.reduceLE, Int.reduceLT, Nat.reduceAdd, Nat.reduceEqDiff, Nat.reduceLT, Nat.reduceLeDiff, Nat.reduceMul, Nat.reduceSub, reduceIte]
theorem ref_bytes {fl : Bool} {bs : List Int} : isRef (.sl fl (bs.map byteA)) = !bs.isEmpty := by cases bs <;> rfl
abbrev Draw (α : Type) := α × Nat × Int
def belowD (bs : List Int) (n : Int) (i : Nat) (h : Int) : Draw Int := (below1 bs n i h, belowI bs n i, belowH n h)
def nameD (bs : List Int) (kind : Int) (i : Nat) (h : Int) : Draw Int := (IntKind.i64.wrap (IntKind.i64.wrap (kind * 10) + below1 bs 3 i h), belowI bs 3 i, belowH 3 h)
theorem r_spec_l5Name {fl : Bool} (k : Nat) (hk : 281474976710656 + 4 ≤ k) (bs : List Int) (hb : bs.length ≤ 140737488355328) (kind : Int) (i : Nat) (h : Int) :
    run E noExt k 40 [.ptr 0 0, .int .i64 kind] [[.sl fl (bs.map byteA), .int .i64 (i : Nat), .int .i64 h]] = some (.int .i64 (nameD bs kind i h).1, [[.sl fl (bs.map byteA), .int .i64 ((nameD bs kind i h).2.1 : Nat), .int .i64 (nameD bs kind i h).2.2]]) := by
  have c1 := fun n i h => r_spec_l1Below (fl := fl) (k - 1) (by omega) bs hb n i h
  obtain ⟨k, rfl⟩ : ∃ j, k = j + 1 := ⟨k - 1, by omega⟩
  rw [run_succ rfl rfl, body_eq (nt := 10) (fn := Go.Proofs.Tryz.f40) (by kernel_rfl) rfl rfl rfl rfl rfl rfl rfl rfl]
  simp -implicitDefEqProofs only [Nat.add_sub_cancel] at c1
  simp -implicitDefEqProofs only [W3, ↓D3, ↓DA, ↓DP, ↓DC, nameD, Go.Proofs.Tryz.f40, c1, bne, look_nil, evCall_io1, evCall_io2, evCall_io3, evCall_io4, finJ_1, finJ_2, finJ_3, finJ_4, finJ_int, finJ_bool, finJ_str, finJ_nils, finJ_agg, finJ_own, finJ_sl, finJ_tup, look_cons, reduceCtorEq, evCall_mutOwn, evCall_mutAgg, evGive, giveRows, ioBoxes, mutArgs, roArgs, handArg, mutSlots, isPtrB, pairs, pairss, back_nil, back_cons, backO, backE, setBoxes, importB, mode_mut, mode_give, mode_io, mode_ro, List.zip_cons_cons, List.zip_nil_left, List.zip_nil_right, ite_self, ite_true, ite_false, finish_give, finish_mut1, finish_io0, finish_io2, finish_io3, finish_ioc, finI, finC, finW_ptr, SH, Int.reduceToNat, id_eq, Int.reduceBEq, Int.reduceLE, Int.reduceLT, Nat.reduceAdd, Nat.reduceEqDiff, Nat.reduceLT, Nat.reduceLeDiff, Nat.reduceMul, Nat.reduceSub, reduceIte]
end Go.Proofs.YtokjpncehggojaaGreat.Flat
