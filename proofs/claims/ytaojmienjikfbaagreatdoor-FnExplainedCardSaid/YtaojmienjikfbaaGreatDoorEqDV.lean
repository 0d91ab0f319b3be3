/-
The draws: conditions made of conditions.
-/
import Derived.Test.YtaojmienjikfbaaGreatDoorEqDL
set_option linter.unusedVariables false
set_option linter.unusedSimpArgs false
set_option maxRecDepth 10000
namespace Go.Proofs.YtaojmienjikfbaaGreatDoor.Flat
theorem r_spec_CondNot (k : Nat) (hk : 290271069732864 + 4 ≤ k) (x : Cond) (hx : x.w ≤ 1099511627776) :
    run E noExt k 130 [x.enc true] [] = some ((⟨7, 0, 0, [x]⟩ : Cond).dAV, []) := by
  have c1 := r_spec_l15Copy (fl := true) (k - 1) (by omega) x (by omega)
  unfold Cond.copyAV at c1
  have hsc := tscals_N x.args
  obtain ⟨k, rfl⟩ : ∃ j, k = j + 1 := ⟨k - 1, by omega⟩
  rw [run_succ rfl rfl, body_eq (nt := 7) (fn := Go.Proofs.Tryz.f130) (by kernel_rfl) rfl rfl rfl rfl rfl rfl rfl rfl]
  simp -implicitDefEqProofs only [Nat.add_sub_cancel, enc_Cond] at c1
  have hr : rowN 0 ([x].map (Cond.enc true)) = .own 0 false 61 4 [x.enc true] := rowN_ne (by simp)
  simp -implicitDefEqProofs only [Cond.dAV, hr]
  rcases Classical.em (x.args.map Cond.tencN = []) with h2 | h2
  · have h3 : x.args.map (Cond.enc true) = [] := by cases hx : x.args with | nil => rfl | cons c r => rw [hx] at h2; simp at h2
    rw [h2, h3] at c1
    simp -implicitDefEqProofs only [rowN_nil] at c1
    simp -implicitDefEqProofs only [W3, ↓D3, ↓DA, ↓DP, ↓DC, enc_Cond, h3, Go.Proofs.Tryz.f130, c1, hsc, bne, SH, Int.reduceToNat, id_eq, Int.reduceBEq, Int.reduceLE, Int.reduceLT, Nat.reduceAdd, Nat.reduceEqDiff, Nat.reduceLT, Nat.reduceLeDiff, Nat.reduceMul, Nat.reduceSub, reduceIte]
  · simp -implicitDefEqProofs only [rowN_ne h2] at c1
    simp -implicitDefEqProofs only [W3, ↓D3, ↓DA, ↓DP, ↓DC, enc_Cond, Go.Proofs.Tryz.f130, c1, hsc, tshuts_N, bne, SH, Int.reduceToNat, id_eq, Int.reduceBEq, Int.reduceLE, Int.reduceLT, Nat.reduceAdd, Nat.reduceEqDiff, Nat.reduceLT, Nat.reduceLeDiff, Nat.reduceMul, Nat.reduceSub, reduceIte]
theorem r_spec_CondAnd (k : Nat) (hk : 290271069732864 + 4 ≤ k) (x y : Cond) (hx : x.w ≤ 1099511627776) (hy : y.w ≤ 1099511627776) :
    run E noExt k 131 [x.enc true, y.enc true] [] = some ((⟨8, 0, 0, [x, y]⟩ : Cond).dAV, []) := by
  have c1 := r_spec_l15Copy (fl := true) (k - 1) (by omega) x (by omega)
  have c2 := r_spec_l15Copy (fl := true) (k - 1) (by omega) y (by omega)
  unfold Cond.copyAV at c1 c2
  have hsc := tscals_N x.args
  have hsd := tscals_N y.args
  obtain ⟨k, rfl⟩ : ∃ j, k = j + 1 := ⟨k - 1, by omega⟩
  rw [run_succ rfl rfl, body_eq (nt := 11) (fn := Go.Proofs.Tryz.f131) (by kernel_rfl) rfl rfl rfl rfl rfl rfl rfl rfl]
  simp -implicitDefEqProofs only [Nat.add_sub_cancel, enc_Cond] at c1 c2
  have hr : rowN 0 ([x, y].map (Cond.enc true)) = .own 0 false 61 4 [x.enc true, y.enc true] := rowN_ne (by simp)
  simp -implicitDefEqProofs only [Cond.dAV, hr]
  rcases Classical.em (x.args.map Cond.tencN = []) with h2 | h2 <;> rcases Classical.em (y.args.map Cond.tencN = []) with h4 | h4
  · have h3 : x.args.map (Cond.enc true) = [] := by cases hx : x.args with | nil => rfl | cons c r => rw [hx] at h2; simp at h2
    have h5 : y.args.map (Cond.enc true) = [] := by cases hx : y.args with | nil => rfl | cons c r => rw [hx] at h4; simp at h4
    rw [h2, h3] at c1
    rw [h4, h5] at c2
    simp -implicitDefEqProofs only [rowN_nil] at c1 c2
    simp -implicitDefEqProofs only [W3, ↓D3, ↓DA, ↓DP, ↓DC, enc_Cond, h3, h5, Go.Proofs.Tryz.f131, c1, c2, hsc, hsd, plan_131_1, SH, Int.reduceToNat, id_eq, Int.reduceBEq, Int.reduceLE, Int.reduceLT, Nat.reduceAdd, Nat.reduceEqDiff, Nat.reduceLT, Nat.reduceLeDiff, Nat.reduceMul, Nat.reduceSub, reduceIte]
  · have h3 : x.args.map (Cond.enc true) = [] := by cases hx : x.args with | nil => rfl | cons c r => rw [hx] at h2; simp at h2
    rw [h2, h3] at c1
    simp -implicitDefEqProofs only [rowN_nil, rowN_ne h4] at c1 c2
    simp -implicitDefEqProofs only [W3, ↓D3, ↓DA, ↓DP, ↓DC, enc_Cond, h3, Go.Proofs.Tryz.f131, c1, c2, hsc, hsd, tshuts_N, plan_131_1, SH, Int.reduceToNat, id_eq, Int.reduceBEq, Int.reduceLE, Int.reduceLT, Nat.reduceAdd, Nat.reduceEqDiff, Nat.reduceLT, Nat.reduceLeDiff, Nat.reduceMul, Nat.reduceSub, reduceIte]
  · have h5 : y.args.map (Cond.enc true) = [] := by cases hx : y.args with | nil => rfl | cons c r => rw [hx] at h4; simp at h4
    rw [h4, h5] at c2
    simp -implicitDefEqProofs only [rowN_nil, rowN_ne h2] at c1 c2
    simp -implicitDefEqProofs only [W3, ↓D3, ↓DA, ↓DP, ↓DC, enc_Cond, h5, Go.Proofs.Tryz.f131, c1, c2, hsc, hsd, tshuts_N, plan_131_1, SH, Int.reduceToNat, id_eq, Int.reduceBEq, Int.reduceLE, Int.reduceLT, Nat.reduceAdd, Nat.reduceEqDiff, Nat.reduceLT, Nat.reduceLeDiff, Nat.reduceMul, Nat.reduceSub, reduceIte]
  · simp -implicitDefEqProofs only [rowN_ne h2] at c1
    simp -implicitDefEqProofs only [rowN_ne h4] at c2
    simp -implicitDefEqProofs only [W3, ↓D3, ↓DA, ↓DP, ↓DC, enc_Cond, Go.Proofs.Tryz.f131, c1, c2, hsc, hsd, tshuts_N, plan_131_1, SH, Int.reduceToNat, id_eq, Int.reduceBEq, Int.reduceLE, Int.reduceLT, Nat.reduceAdd, Nat.reduceEqDiff, Nat.reduceLT, Nat.reduceLeDiff, Nat.reduceMul, Nat.reduceSub, reduceIte]
theorem r_spec_CondOr (k : Nat) (hk : 290271069732864 + 4 ≤ k) (x y : Cond) (hx : x.w ≤ 1099511627776) (hy : y.w ≤ 1099511627776) :
    run E noExt k 132 [x.enc true, y.enc true] [] = some ((⟨9, 0, 0, [x, y]⟩ : Cond).dAV, []) := by
  have c1 := r_spec_l15Copy (fl := true) (k - 1) (by omega) x (by omega)
  have c2 := r_spec_l15Copy (fl := true) (k - 1) (by omega) y (by omega)
  unfold Cond.copyAV at c1 c2
  have hsc := tscals_N x.args
  have hsd := tscals_N y.args
  obtain ⟨k, rfl⟩ : ∃ j, k = j + 1 := ⟨k - 1, by omega⟩
  rw [run_succ rfl rfl, body_eq (nt := 11) (fn := Go.Proofs.Tryz.f132) (by kernel_rfl) rfl rfl rfl rfl rfl rfl rfl rfl]
  simp -implicitDefEqProofs only [Nat.add_sub_cancel, enc_Cond] at c1 c2
  have hr : rowN 0 ([x, y].map (Cond.enc true)) = .own 0 false 61 4 [x.enc true, y.enc true] := rowN_ne (by simp)
  simp -implicitDefEqProofs only [Cond.dAV, hr]
  rcases Classical.em (x.args.map Cond.tencN = []) with h2 | h2 <;> rcases Classical.em (y.args.map Cond.tencN = []) with h4 | h4
  · have h3 : x.args.map (Cond.enc true) = [] := by cases hx : x.args with | nil => rfl | cons c r => rw [hx] at h2; simp at h2
    have h5 : y.args.map (Cond.enc true) = [] := by cases hx : y.args with | nil => rfl | cons c r => rw [hx] at h4; simp at h4
    rw [h2, h3] at c1
    rw [h4, h5] at c2
    simp -implicitDefEqProofs only [rowN_nil] at c1 c2
    simp -implicitDefEqProofs only [W3, ↓D3, ↓DA, ↓DP, ↓DC, enc_Cond, h3, h5, Go.Proofs.Tryz.f132, c1, c2, hsc, hsd, plan_132_1, SH, Int.reduceToNat, id_eq, Int.reduceBEq, Int.reduceLE, Int.reduceLT, Nat.reduceAdd, Nat.reduceEqDiff, Nat.reduceLT, Nat.reduceLeDiff, Nat.reduceMul, Nat.reduceSub, reduceIte]
  · have h3 : x.args.map (Cond.enc true) = [] := by cases hx : x.args with | nil => rfl | cons c r => rw [hx] at h2; simp at h2
    rw [h2, h3] at c1
    simp -implicitDefEqProofs only [rowN_nil, rowN_ne h4] at c1 c2
    simp -implicitDefEqProofs only [W3, ↓D3, ↓DA, ↓DP, ↓DC, enc_Cond, h3, Go.Proofs.Tryz.f132, c1, c2, hsc, hsd, tshuts_N, plan_132_1, SH, Int.reduceToNat, id_eq, Int.reduceBEq, Int.reduceLE, Int.reduceLT, Nat.reduceAdd, Nat.reduceEqDiff, Nat.reduceLT, Nat.reduceLeDiff, Nat.reduceMul, Nat.reduceSub, reduceIte]
  · have h5 : y.args.map (Cond.enc true) = [] := by cases hx : y.args with | nil => rfl | cons c r => rw [hx] at h4; simp at h4
    rw [h4, h5] at c2
    simp -implicitDefEqProofs only [rowN_nil, rowN_ne h2] at c1 c2
    simp -implicitDefEqProofs only [W3, ↓D3, ↓DA, ↓DP, ↓DC, enc_Cond, h5, Go.Proofs.Tryz.f132, c1, c2, hsc, hsd, tshuts_N, plan_132_1, SH, Int.reduceToNat, id_eq, Int.reduceBEq, Int.reduceLE, Int.reduceLT, Nat.reduceAdd, Nat.reduceEqDiff, Nat.reduceLT, Nat.reduceLeDiff, Nat.reduceMul, Nat.reduceSub, reduceIte]
  · simp -implicitDefEqProofs only [rowN_ne h2] at c1
    simp -implicitDefEqProofs only [rowN_ne h4] at c2
    simp -implicitDefEqProofs only [W3, ↓D3, ↓DA, ↓DP, ↓DC, enc_Cond, Go.Proofs.Tryz.f132, c1, c2, hsc, hsd, tshuts_N, plan_132_1, SH, Int.reduceToNat, id_eq, Int.reduceBEq, Int.reduceLE, Int.reduceLT, Nat.reduceAdd, Nat.reduceEqDiff, Nat.reduceLT, Nat.reduceLeDiff, Nat.reduceMul, Nat.reduceSub, reduceIte]
def condN (F : Nat → Int → Draw Cond) (i : Nat) (h : Int) : Nat → Draw Cond
  | 0 => (⟨7, 0, 0, [(F i h).1]⟩, (F i h).2.1, (F i h).2.2)
  | 1 => (⟨8, 0, 0, [(F i h).1, (F (F i h).2.1 (F i h).2.2).1]⟩, (F (F i h).2.1 (F i h).2.2).2.1, (F (F i h).2.1 (F i h).2.2).2.2)
  | 2 => (⟨8, 0, 0, [(F i h).1, (F (F i h).2.1 (F i h).2.2).1]⟩, (F (F i h).2.1 (F i h).2.2).2.1, (F (F i h).2.1 (F i h).2.2).2.2)
  | _ => (⟨9, 0, 0, [(F i h).1, (F (F i h).2.1 (F i h).2.2).1]⟩, (F (F i h).2.1 (F i h).2.2).2.1, (F (F i h).2.1 (F i h).2.2).2.2)
def condD (bs : List Int) : Nat → Nat → Int → Draw Cond
  | 0, i, h => leafD bs i h
  | n + 1, i, h => match below1 bs 3 i h == 0 with
    | true => leafD bs (belowI bs 3 i) (belowH 3 h)
    | false => condN (condD bs n) (belowI bs 5 (belowI bs 3 i)) (belowH 5 (belowH 3 h)) (below1 bs 5 (belowI bs 3 i) (belowH 3 h)).toNat
theorem leaf_w {x : Cond} (h : x.args = []) : x.w = 0 := by rw [x.w_eq, h]; rfl
theorem condN_w {F : Nat → Int → Draw Cond} {b : Nat} (hF : ∀ i h, (F i h).1.w ≤ b) (i : Nat) (h : Int) (n : Nat) : (condN F i h n).1.w ≤ 2 * b + 2 := by
  have h1 := hF i h
  have h2 := hF (F i h).2.1 (F i h).2.2
  unfold condN
  split <;> (rw [Cond.w_eq]; simp -implicitDefEqProofs only [wl]; omega)
def condB : Nat → Nat
  | 0 => 0
  | n + 1 => 2 * condB n + 2
theorem condD_w (bs : List Int) : ∀ n i h, (condD bs n i h).1.w ≤ condB n
  | 0, i, h => by
    simp -implicitDefEqProofs only [condD]
    have hl : (leafD bs i h).1.w = 0 := leaf_w (leafN_args _)
    omega
  | n + 1, i, h => by
    simp -implicitDefEqProofs only [condD, condB]
    split
    · have hl : (leafD bs (belowI bs 3 i) (belowH 3 h)).1.w = 0 := leaf_w (leafN_args _)
      omega
    · exact condN_w (fun i h => condD_w bs n i h) _ _ _
theorem r_spec_l15Cond0 {fl : Bool} (k : Nat) (hk : 290271069732864 + 6 ≤ k) (bs : List Int) (hb : bs.length ≤ 140737488355328) (i : Nat) (h : Int) :
    run E noExt k 113 [.ptr 0 0, .int .i64 ((0 : Nat) : Int)] [[.sl fl (bs.map byteA), .int .i64 (i : Nat), .int .i64 h]] = some ((condD bs 0 i h).1.dAV, [[.sl fl (bs.map byteA), .int .i64 ((condD bs 0 i h).2.1 : Nat), .int .i64 (condD bs 0 i h).2.2]]) := by
  have c1 := fun i h => r_spec_l15Leaf (fl := fl) (k - 1) (by omega) bs hb i h
  have hargs : (leafD bs i h).1.args = [] := leafN_args _
  obtain ⟨k, rfl⟩ : ∃ j, k = j + 1 := ⟨k - 1, by omega⟩
  rw [run_succ rfl rfl, body_eq (nt := 47) (fn := Go.Proofs.Tryz.f113) (by kernel_rfl) rfl rfl rfl rfl rfl rfl rfl rfl]
  simp -implicitDefEqProofs only [Nat.add_sub_cancel, Cond.dAV] at c1
  have c2 := c1 i h
  rw [hargs] at c2
  simp -implicitDefEqProofs only [List.map_nil, rowN_nil] at c2
  have h0 : ((0 : Nat) : Int) < 1 := by omega
  simp -implicitDefEqProofs only [W3, ↓D3, ↓DA, ↓DP, ↓DC, condD, Cond.dAV, hargs, rowN_nil, h0, finish_cell1, finish_cell2, finCell_some, Go.Proofs.Tryz.f113, c2, look_nil, evCall_io1, evCall_io2, evCall_io3, evCall_io4, finJ_1, finJ_2, finJ_3, finJ_4, finJ_int, finJ_bool, finJ_str, finJ_nils, finJ_agg, finJ_own, finJ_sl, finJ_tup, look_cons, reduceCtorEq, evCall_mutOwn, evCall_mutAgg, evGive, giveRows, ioBoxes, mutArgs, roArgs, handArg, mutSlots, isPtrB, pairs, pairss, back_nil, back_cons, backO, backE, setBoxes, importB, mode_mut, mode_give, mode_io, mode_ro, List.zip_cons_cons, List.zip_nil_left, List.zip_nil_right, ite_self, ite_true, ite_false, finish_give, finish_mut1, finish_io0, finish_io2, finish_io3, finish_ioc, finI, finC, finW_ptr, SH, Int.reduceToNat, id_eq, Int.reduceBEq, Int.reduceLE, Int.reduceLT, Nat.reduceAdd, Nat.reduceEqDiff, Nat.reduceLT, Nat.reduceLeDiff, Nat.reduceMul, Nat.reduceSub, reduceIte]
def argsR (id : Nat) (x : Cond) : AV := rowN id (x.args.map (Cond.enc true))
def rowsD (id : Nat) (x : Cond) : List Nat := (argsR id x).rows
theorem argsR_cases (x : Cond) : (x.args = [] ∧ ∀ id, argsR id x = .nils ∧ rowsD id x = []) ∨ (x.args ≠ [] ∧ ∀ id, argsR id x = .own id false 61 4 (x.args.map (Cond.enc true)) ∧ rowsD id x = [id]) := by
  rcases Classical.em (x.args = []) with h | h
  · refine .inl ⟨h, fun id => ?_⟩
    have : argsR id x = .nils := by unfold argsR; rw [h]; rfl
    exact ⟨this, by unfold rowsD; rw [this]; rfl⟩
  · refine .inr ⟨h, fun id => ?_⟩
    have : argsR id x = .own id false 61 4 (x.args.map (Cond.enc true)) := rowN_ne (by simpa using h)
    exact ⟨this, by unfold rowsD; rw [this]; rfl⟩
theorem argsR_nil {id : Nat} {x : Cond} (h : x.args = []) : argsR id x = .nils := by unfold argsR; rw [h]; rfl
theorem dAV_D (x : Cond) : x.dAV = .agg [.int .i64 x.op, .int .i64 x.a, .int .i64 x.b, argsR 0 x] := rfl
theorem rows_argsR {id : Nat} {x : Cond} : (argsR id x).rows = rowsD id x := rfl
theorem boxes_argsR {id : Nat} {x : Cond} : (argsR id x).boxes = [] := by rcases argsR_cases x with ⟨_, h⟩ | ⟨_, h⟩ <;> rw [(h _).1] <;> rfl
theorem isCell_argsR {id : Nat} {x : Cond} : (argsR id x).isCell = true := by rcases argsR_cases x with ⟨_, h⟩ | ⟨_, h⟩ <;> rw [(h _).1] <;> rfl
theorem cells_argsR {id : Nat} {x : Cond} : (argsR id x).cells = [argsR id x] := by rcases argsR_cases x with ⟨_, h⟩ | ⟨_, h⟩ <;> rw [(h _).1] <;> rfl
theorem cellsX_agg {cs : List AV} : (AV.agg cs).cells = cs := rfl
theorem cellsX_int {k : IntKind} {n : Int} : (AV.int k n).cells = [.int k n] := rfl
theorem cellsX_bool {b : Bool} : (AV.bool b).cells = [.bool b] := rfl
theorem cellsX_str {s : ByteArray} : (AV.str s).cells = [.str s] := rfl
theorem cellsX_nils : AV.nils.cells = [.nils] := rfl
theorem cellsX_sl {f : Bool} {xs : List AV} : (AV.sl f xs).cells = [.sl f xs] := rfl
theorem cellsX_own {i : Nat} {f : Bool} {e s : Nat} {xs : List AV} : (AV.own i f e s xs).cells = [.own i f e s xs] := rfl
theorem cellsX_ptr {i o : Nat} : (AV.ptr i o).cells = [.ptr i o] := rfl
theorem cellsX_cptr {xs : List AV} : (AV.cptr xs).cells = [.cptr xs] := rfl
theorem cellsX_undef : AV.undef.cells = [.undef] := rfl
theorem dedup_rowsD {id : Nat} {x : Cond} : dedup (rowsD id x) = rowsD id x := by rcases argsR_cases x with ⟨_, h⟩ | ⟨_, h⟩ <;> rw [(h _).2] <;> rfl
theorem nodup_rowsD {id : Nat} {x : Cond} : nodupB (rowsD id x) = true := by rcases argsR_cases x with ⟨_, h⟩ | ⟨_, h⟩ <;> rw [(h _).2] <;> rfl
theorem all_rowsD {id : Nat} {x : Cond} : ((rowsD id x).all fun r => decide (r ∈ rowsD id x)) = true := by rcases argsR_cases x with ⟨_, h⟩ | ⟨_, h⟩ <;> rw [(h _).2] <;> simp
theorem small_rowsD {x : Cond} : ((rowsD 0 x).all fun i => decide (i < 8)) = true := by rcases argsR_cases x with ⟨_, h⟩ | ⟨_, h⟩ <;> rw [(h _).2] <;> simp
theorem bad_argsR {id : Nat} {x : Cond} : AV.any isBad (argsR id x) = false := by rcases argsR_cases x with ⟨_, h⟩ | ⟨_, h⟩ <;> rw [(h _).1] <;> rfl
theorem ptr_argsR {id : Nat} {x : Cond} : AV.any isPtr (argsR id x) = false := by rcases argsR_cases x with ⟨_, h⟩ | ⟨_, h⟩ <;> rw [(h _).1] <;> rfl
theorem mapO_argsR {id : Nat} {x : Cond} {p : Nat → Nat → AV} {h : Bool → Nat → Bool → Nat → Nat → List AV → Nat → Nat → AV} : AV.mapO (fun i fz e sz xs => .own (idx (rowsD id x) i) fz e sz xs) p h (fun _ => .nils) (argsR id x) = argsR 0 x := by
  rcases argsR_cases x with ⟨_, h⟩ | ⟨_, h⟩
  · rw [(h id).1, (h 0).1]; rfl
  · rw [(h id).1, (h 0).1, (h id).2]; simp [AV.mapO, idx]
theorem imp_argsR {nid id : Nat} {x : Cond} {p : Nat → Nat → AV} {h : Bool → Nat → Bool → Nat → Nat → List AV → Nat → Nat → AV} : AV.mapO (fun i fz e sz xs => .own (nid + i) fz e sz xs) p h (fun _ => .nils) (argsR id x) = argsR (nid + id) x := by
  rcases argsR_cases x with ⟨_, h⟩ | ⟨_, h⟩
  · rw [(h id).1, (h _).1]; rfl
  · rw [(h id).1, (h _).1]; rfl
theorem lend_argsR4 {bx : Nat → Option (List AV)} {id : Nat} {x : Cond} : lend bx 4 (argsR id x) = .sl true (x.args.map (Cond.enc true)) := by
  rcases argsR_cases x with ⟨h0, h⟩ | ⟨_, h⟩
  · rw [(h id).1, h0]; rfl
  · rw [(h id).1]
    simp -implicitDefEqProofs only [lend, AV.mapO, shuts_Cond]
theorem shut_argsR {id : Nat} {x : Cond} {p : Nat → Nat → AV} {h : Bool → Nat → Bool → Nat → Nat → List AV → Nat → Nat → AV} : AV.mapO (fun _ _ _ _ xs => .sl true (AV.shuts xs)) p h (fun _ => .sl true []) (argsR id x) = .sl true (x.args.map (Cond.enc true)) := by
  rcases argsR_cases x with ⟨h0, h⟩ | ⟨_, h⟩
  · rw [(h id).1, h0]; rfl
  · rw [(h id).1]
    simp -implicitDefEqProofs only [AV.mapO, shuts_Cond]
theorem mem_rowsD {i id : Nat} {x : Cond} (h : (i = id) = False) : (i ∈ rowsD id x) = False := by
  have h1 : i ≠ id := fun e => by rw [e] at h; simp at h
  rcases argsR_cases x with ⟨_, h⟩ | ⟨_, h⟩ <;> rw [(h _).2] <;> simp [h1]
theorem allmem_rowsD {i id : Nat} {x : Cond} (h : (i = id) = False) : ((rowsD id x).all fun r => !(decide (r ∈ [i]))) = true := by
  have h1 : id ≠ i := fun e => by subst e; simp at h
  rcases argsR_cases x with ⟨_, h⟩ | ⟨_, h⟩ <;> rw [(h _).2] <;> simp [h1]
theorem all_rowsT {id : Nat} {x : Cond} : ((rowsD id x).all fun _ => true) = true := by simp
theorem away_argsR {nid id : Nat} {bs : List Nat} {ld : Bool} {x : Cond} : away nid bs ld (argsR id x) = true := by rcases argsR_cases x with ⟨_, h⟩ | ⟨_, h⟩ <;> rw [(h _).1] <;> rfl
theorem calm_argsR {st : St} {id : Nat} {ids : List Nat} {ld : Bool} {x : Cond} : calm st ids ld (argsR id x) = (rowsD id x).all fun i => !(decide (i ∈ ids)) := by
  rcases argsR_cases x with ⟨_, h⟩ | ⟨_, h⟩ <;> rw [(h _).1, (h _).2]
  · rfl
  · simp [calm, AV.rows]
noncomputable def frD (ret : AV) (args : List AV) : List Nat := if noref ret = true then [] else args.flatMap AV.rows
mutual
theorem mapO_frz0 : ∀ v : AV, v.mapO (frzO []) .ptr (frzE []) (fun _ => .nils) = v
  | .own id fz e sz xs => by simp [AV.mapO, frzO]
  | .eptr d id fz e sz xs i k => by simp [AV.mapO, frzE]
  | .agg cs => by simp -implicitDefEqProofs only [AV.mapO]; rw [mapOs_frz0 cs]
  | .tup cs => by simp -implicitDefEqProofs only [AV.mapO]; rw [mapOs_frz0 cs]
  | .clo n cs => by simp -implicitDefEqProofs only [AV.mapO]; rw [mapOs_frz0 cs]
  | .ptr _ _ => rfl
  | .undef => rfl
  | .int _ _ => rfl
  | .bool _ => rfl
  | .str _ => rfl
  | .nils => rfl
  | .sl _ _ => rfl
  | .cptr _ => rfl
  | .tr _ _ _ => rfl
theorem mapOs_frz0 : ∀ vs : List AV, AV.mapOs (frzO []) .ptr (frzE []) (fun _ => .nils) vs = vs
  | [] => rfl
  | v :: vs => by simp -implicitDefEqProofs only [AV.mapOs]; rw [mapO_frz0 v, mapOs_frz0 vs]
end
theorem freeze_all {ids : List Nat} {st : St} : st.freeze ids = st.mapO (frzO ids) .ptr (frzE ids) := by
  cases ids with
  | cons => rfl
  | nil =>
    obtain ⟨sl, bx, nx, nt, tr⟩ := st
    simp -implicitDefEqProofs only [St.freeze, St.mapO]
    have h1 : (sl.map fun p => (p.1, AV.mapO (frzO []) .ptr (frzE []) (fun _ => .nils) p.2)) = sl := by
      have : (fun p : Nat × AV => (p.1, AV.mapO (frzO []) .ptr (frzE []) (fun _ => .nils) p.2)) = id := funext fun p => by rw [mapO_frz0]; rfl
      rw [this, List.map_id]
    have h2 : (bx.map fun p => (p.1, AV.mapOs (frzO []) .ptr (frzE []) (fun _ => .nils) p.2)) = bx := by
      have : (fun p : Nat × List AV => (p.1, AV.mapOs (frzO []) .ptr (frzE []) (fun _ => .nils) p.2)) = id := funext fun p => by rw [mapOs_frz0]; rfl
      rw [this, List.map_id]
    rw [h1, h2]
noncomputable def frB (c : Bool) (ids : List Nat) : List Nat := if c = true then [] else ids
theorem freeze_ite {c : Bool} {ids : List Nat} {st : St} : St.freeze (if c = true then [] else ids) st = st.mapO (frzO (frB c ids)) .ptr (frzE (frB c ids)) := freeze_all
theorem frzB_argsR {c : Bool} {i id : Nat} {x : Cond} (h : (i = id) = False) : AV.mapO (frzO (frB c [i])) .ptr (frzE (frB c [i])) (fun _ => .nils) (argsR id x) = argsR id x := by
  have h1 : id ≠ i := fun e => by subst e; simp at h
  have h2 : id ∉ frB c [i] := by unfold frB; split <;> simp [h1]
  rcases argsR_cases x with ⟨_, h⟩ | ⟨_, h⟩
  · rw [(h _).1]; rfl
  · rw [(h _).1]; simp -implicitDefEqProofs only [AV.mapO, frzO, if_neg h2]
theorem after_D {nid : Nat} {dst : Option Nat} {st : St} {args : List AV} {ret : AV} (hs : small ret = true) (hp : args.any (·.any isPtr) = false) : afterRo nid dst st args (some (ret, [])) = (st.mapO (frzO (frD ret args)) .ptr (frzE (frD ret args))).put dst (import_ nid ret) := by
  rw [← freeze_all]
  simp -implicitDefEqProofs only [afterRo, hs, if_true, hp, frD]
  split
  · rfl
  · simp
theorem condN_0 {F : Nat → Int → Draw Cond} {i : Nat} {h : Int} : condN F i h 0 = (⟨7, 0, 0, [(F i h).1]⟩, (F i h).2.1, (F i h).2.2) := rfl
theorem condN_1 {F : Nat → Int → Draw Cond} {i : Nat} {h : Int} : condN F i h 1 = (⟨8, 0, 0, [(F i h).1, (F (F i h).2.1 (F i h).2.2).1]⟩, (F (F i h).2.1 (F i h).2.2).2.1, (F (F i h).2.1 (F i h).2.2).2.2) := rfl
theorem condN_2 {F : Nat → Int → Draw Cond} {i : Nat} {h : Int} : condN F i h 2 = (⟨8, 0, 0, [(F i h).1, (F (F i h).2.1 (F i h).2.2).1]⟩, (F (F i h).2.1 (F i h).2.2).2.1, (F (F i h).2.1 (F i h).2.2).2.2) := rfl
theorem condN_3 {F : Nat → Int → Draw Cond} {i : Nat} {h : Int} {m : Nat} (hm : 3 ≤ m) : condN F i h m = (⟨9, 0, 0, [(F i h).1, (F (F i h).2.1 (F i h).2.2).1]⟩, (F (F i h).2.1 (F i h).2.2).2.1, (F (F i h).2.1 (F i h).2.2).2.2) := by
  match m, hm with
  | _ + 3, _ => rfl
theorem r_spec_l15CondS {fl : Bool} (n : Nat) (hn : n ≤ 8) (k : Nat) (hk : 290271069732864 + 6 ≤ k) (bs : List Int) (hb : bs.length ≤ 140737488355328)
    (c5 : ∀ i h, run E noExt (k - 1) 113 [.ptr 0 0, .int .i64 ((n : Nat) : Int)] [[.sl fl (bs.map byteA), .int .i64 (i : Nat), .int .i64 h]] = some ((condD bs n i h).1.dAV, [[.sl fl (bs.map byteA), .int .i64 ((condD bs n i h).2.1 : Nat), .int .i64 (condD bs n i h).2.2]])) (i : Nat) (h : Int) :
    run E noExt k 113 [.ptr 0 0, .int .i64 ((n + 1 : Nat) : Int)] [[.sl fl (bs.map byteA), .int .i64 (i : Nat), .int .i64 h]] = some ((condD bs (n + 1) i h).1.dAV, [[.sl fl (bs.map byteA), .int .i64 ((condD bs (n + 1) i h).2.1 : Nat), .int .i64 (condD bs (n + 1) i h).2.2]]) := by
  have c1 := fun i h => r_spec_l15Leaf (fl := fl) (k - 1) (by omega) bs hb i h
  have c2 := fun m i h => r_spec_l1Once (fl := fl) (k - 1) (by omega) bs hb m i h
  have c3 := fun m i h => r_spec_l1Below (fl := fl) (k - 1) (by omega) bs hb m i h
  have h0 : ¬ ((n + 1 : Nat) : Int) < 1 := by omega
  have hw : IntKind.i64.wrap (((n + 1 : Nat) : Int) - 1) = ((n : Nat) : Int) := by rw [IntWalk.i64_in _ (by omega)]; omega
  have hlt := below_lt bs (n := 5) (by omega) (by omega) (belowI bs 3 i) (belowH 3 h)
  have hbn : condB n ≤ 1099511627776 := by
    have h9 : ∀ m, m ≤ 8 → condB m ≤ 1099511627776 := by decide
    exact h9 n hn
  have d1 := fun x hx => r_spec_CondNot (k - 1) (by omega) x hx
  have d2 := fun x y hx hy => r_spec_CondAnd (k - 1) (by omega) x y hx hy
  have d3 := fun x y hx hy => r_spec_CondOr (k - 1) (by omega) x y hx hy
  obtain ⟨k, rfl⟩ : ∃ j, k = j + 1 := ⟨k - 1, by omega⟩
  rw [run_succ rfl rfl, body_eq (nt := 47) (fn := Go.Proofs.Tryz.f113) (by kernel_rfl) rfl rfl rfl rfl rfl rfl rfl rfl]
  simp -implicitDefEqProofs only [Nat.add_sub_cancel, dAV_D, enc_Cond] at c1 c2 c3 c5 d1 d2 d3
  simp -implicitDefEqProofs only [condD, dAV_D]
  cases h1 : below1 bs 3 i h == 0
  · simp only
    have e1 := d1 (condD bs n (belowI bs 5 (belowI bs 3 i)) (belowH 5 (belowH 3 h))).1 (Nat.le_trans (condD_w bs n _ _) hbn)
    have e2 := d2 (condD bs n (belowI bs 5 (belowI bs 3 i)) (belowH 5 (belowH 3 h))).1 (condD bs n (condD bs n (belowI bs 5 (belowI bs 3 i)) (belowH 5 (belowH 3 h))).2.1 (condD bs n (belowI bs 5 (belowI bs 3 i)) (belowH 5 (belowH 3 h))).2.2).1 (Nat.le_trans (condD_w bs n _ _) hbn) (Nat.le_trans (condD_w bs n _ _) hbn)
    have e3 := d3 (condD bs n (belowI bs 5 (belowI bs 3 i)) (belowH 5 (belowH 3 h))).1 (condD bs n (condD bs n (belowI bs 5 (belowI bs 3 i)) (belowH 5 (belowH 3 h))).2.1 (condD bs n (belowI bs 5 (belowI bs 3 i)) (belowH 5 (belowH 3 h))).2.2).1 (Nat.le_trans (condD_w bs n _ _) hbn) (Nat.le_trans (condD_w bs n _ _) hbn)
    have c6 := c5 (belowI bs 5 (belowI bs 3 i)) (belowH 5 (belowH 3 h))
    have c7 := c5 (condD bs n (belowI bs 5 (belowI bs 3 i)) (belowH 5 (belowH 3 h))).2.1 (condD bs n (belowI bs 5 (belowI bs 3 i)) (belowH 5 (belowH 3 h))).2.2
    clear c5 d1 d2 d3 c1
    generalize hd : below1 bs 5 (belowI bs 3 i) (belowH 3 h) = d at *
    have hm : d = 0 ∨ d = 1 ∨ d = 2 ∨ d = 3 ∨ d = 4 := by omega
    have hc0 := condN_0 (F := condD bs n) (i := belowI bs 5 (belowI bs 3 i)) (h := belowH 5 (belowH 3 h))
    have hc1 := condN_1 (F := condD bs n) (i := belowI bs 5 (belowI bs 3 i)) (h := belowH 5 (belowH 3 h))
    have hc2 := condN_2 (F := condD bs n) (i := belowI bs 5 (belowI bs 3 i)) (h := belowH 5 (belowH 3 h))
    have hc3 := condN_3 (F := condD bs n) (i := belowI bs 5 (belowI bs 3 i)) (h := belowH 5 (belowH 3 h)) (m := 3) (by omega)
    have hc4 := condN_3 (F := condD bs n) (i := belowI bs 5 (belowI bs 3 i)) (h := belowH 5 (belowH 3 h)) (m := 4) (by omega)
    generalize hX : condD bs n (belowI bs 5 (belowI bs 3 i)) (belowH 5 (belowH 3 h)) = X at *
    generalize hY : condD bs n X.2.1 X.2.2 = Y at *
    rcases hm with rfl | rfl | rfl | rfl | rfl
    all_goals
      simp -implicitDefEqProofs only [W3, ↓D3, ↓DA, Int.reduceToNat, hc0, hc1, hc2, hc3, hc4, hY, h0, h1, hw, hd, finish_cell1, finish_cell2, finCell_some, Go.Proofs.Tryz.f113, c2, c3, c6, c7, e1, e2, e3, plan_113_9, plan_113_11, rows_argsR, boxes_argsR, ↓isCell_argsR, cells_argsR, cellsX_agg, cellsX_int, cellsX_bool, cellsX_str, cellsX_nils, cellsX_sl, cellsX_own, cellsX_ptr, cellsX_cptr, cellsX_undef, dedup_rowsD, nodup_rowsD, all_rowsD, all_rowsT, small_rowsD, bad_argsR, ptr_argsR, mapO_argsR, imp_argsR, lend_argsR4, shut_argsR, mem_rowsD, allmem_rowsD, after_D, freeze_ite, frzB_argsR, away_argsR, calm_argsR, opS_store, slidP_ptr, opS_call, slidM_io1, slidM_io2, away_F, away_ptr, away_int, away_bool, away_nils, away_undef, away_sl, away_agg, away_own, look_nil, evCall_io1, evCall_io2, evCall_io3, evCall_io4, finJ_1, finJ_2, finJ_3, finJ_4, finJ_int, finJ_bool, finJ_str, finJ_nils, finJ_agg, finJ_own, finJ_sl, finJ_tup, look_cons, reduceCtorEq, evCall_mutOwn, evCall_mutAgg, evGive, giveRows, ioBoxes, mutArgs, roArgs, handArg, mutSlots, isPtrB, pairs, pairss, back_nil, back_cons, backO, backE, setBoxes, importB, mode_mut, mode_give, mode_io, mode_ro, List.zip_cons_cons, List.zip_nil_left, List.zip_nil_right, ite_self, ite_true, ite_false, finish_give, finish_mut1, finish_io0, finish_io2, finish_io3, finish_ioc, finI, finC, finW_ptr, SH, noref, isRef, isPtr, noPtr, isBad, AV.isUndef, id_eq, Int.reduceBEq, Int.reduceLE, Int.reduceLT, AV.cells, AV.isCell, Value.cells, Nat.reduceAdd, Nat.reduceEqDiff, Nat.reduceLT, Nat.reduceLeDiff, Nat.reduceMul, Nat.reduceSub, reduceIte]
      try trace_state
  · simp -implicitDefEqProofs only [W3, ↓D3, ↓DA, h0, h1, finish_cell1, finish_cell2, finCell_some, Go.Proofs.Tryz.f113, c1, c2, rows_argsR, boxes_argsR, ↓isCell_argsR, cells_argsR, cellsX_agg, cellsX_int, cellsX_bool, cellsX_str, cellsX_nils, cellsX_sl, cellsX_own, cellsX_ptr, cellsX_cptr, cellsX_undef, dedup_rowsD, nodup_rowsD, all_rowsD, all_rowsT, small_rowsD, bad_argsR, ptr_argsR, mapO_argsR, imp_argsR, lend_argsR4, shut_argsR, mem_rowsD, allmem_rowsD, after_D, freeze_ite, frzB_argsR, away_argsR, calm_argsR, opS_store, slidP_ptr, opS_call, slidM_io1, slidM_io2, away_F, away_ptr, away_int, away_bool, away_nils, away_undef, away_sl, away_agg, away_own, look_nil, evCall_io1, evCall_io2, evCall_io3, evCall_io4, finJ_1, finJ_2, finJ_3, finJ_4, finJ_int, finJ_bool, finJ_str, finJ_nils, finJ_agg, finJ_own, finJ_sl, finJ_tup, look_cons, reduceCtorEq, evCall_mutOwn, evCall_mutAgg, evGive, giveRows, ioBoxes, mutArgs, roArgs, handArg, mutSlots, isPtrB, pairs, pairss, back_nil, back_cons, backO, backE, setBoxes, importB, mode_mut, mode_give, mode_io, mode_ro, List.zip_cons_cons, List.zip_nil_left, List.zip_nil_right, ite_self, ite_true, ite_false, finish_give, finish_mut1, finish_io0, finish_io2, finish_io3, finish_ioc, finI, finC, finW_ptr, SH, noref, isRef, isPtr, noPtr, isBad, AV.isUndef, Int.reduceToNat, id_eq, Int.reduceBEq, Int.reduceLE, Int.reduceLT, AV.cells, AV.isCell, Value.cells, Nat.reduceAdd, Nat.reduceEqDiff, Nat.reduceLT, Nat.reduceLeDiff, Nat.reduceMul, Nat.reduceSub, reduceIte]
    try trace_state
theorem r_spec_l15Cond {fl : Bool} (bs : List Int) (hb : bs.length ≤ 140737488355328) : ∀ (n : Nat) (hn : n ≤ 8) (k : Nat) (hk : 290271069732864 + 6 + n ≤ k) (i : Nat) (h : Int),
    run E noExt k 113 [.ptr 0 0, .int .i64 ((n : Nat) : Int)] [[.sl fl (bs.map byteA), .int .i64 (i : Nat), .int .i64 h]] = some ((condD bs n i h).1.dAV, [[.sl fl (bs.map byteA), .int .i64 ((condD bs n i h).2.1 : Nat), .int .i64 (condD bs n i h).2.2]])
  | 0, hn, k, hk, i, h => r_spec_l15Cond0 k (by omega) bs hb i h
  | n + 1, hn, k, hk, i, h => r_spec_l15CondS n (by omega) k (by omega) bs hb (fun i h => r_spec_l15Cond bs hb n (by omega) (k - 1) (by omega) i h) i h
theorem r_spec_l15CondZ {fl : Bool} (k : Nat) (hk : 290271069732864 + 8 ≤ k) (bs : List Int) (hb : bs.length ≤ 140737488355328) (i : Nat) (h : Int) :
    run E noExt k 113 [.ptr 0 0, .int .i64 2] [[.sl fl (bs.map byteA), .int .i64 (i : Nat), .int .i64 h]] = some ((condD bs 2 i h).1.dAV, [[.sl fl (bs.map byteA), .int .i64 ((condD bs 2 i h).2.1 : Nat), .int .i64 (condD bs 2 i h).2.2]]) := r_spec_l15Cond bs hb 2 (by omega) k (by omega) i h
theorem condD_len (bs : List Int) (n : Nat) (i : Nat) (h : Int) : (condD bs n i h).1.args.length ≤ 2 := by
  cases n with
  | zero => simp -implicitDefEqProofs only [condD, leafD, leafN_args, List.length_nil]; omega
  | succ n =>
    simp -implicitDefEqProofs only [condD]
    split
    · simp -implicitDefEqProofs only [leafD, leafN_args, List.length_nil]; omega
    · unfold condN
      split <;> simp
theorem argsR_mk {id : Nat} {o a b : Int} {x : Cond} : argsR id ⟨o, a, b, x.args⟩ = argsR id x := rfl
theorem rowsD_mk {id : Nat} {o a b : Int} {x : Cond} : rowsD id ⟨o, a, b, x.args⟩ = rowsD id x := rfl
mutual
theorem mapO_id0 : ∀ v : AV, v.mapO (fun i fz e sz xs => .own i fz e sz xs) .ptr (fun d i fz e sz xs k off => .eptr d i fz e sz xs k off) (fun _ => .nils) = v
  | .own id fz e sz xs => by simp [AV.mapO]
  | .eptr d id fz e sz xs i k => by simp [AV.mapO]
  | .agg cs => by simp -implicitDefEqProofs only [AV.mapO]; rw [mapOs_id0 cs]
  | .tup cs => by simp -implicitDefEqProofs only [AV.mapO]; rw [mapOs_id0 cs]
  | .clo n cs => by simp -implicitDefEqProofs only [AV.mapO]; rw [mapOs_id0 cs]
  | .ptr _ _ => rfl
  | .undef => rfl
  | .int _ _ => rfl
  | .bool _ => rfl
  | .str _ => rfl
  | .nils => rfl
  | .sl _ _ => rfl
  | .cptr _ => rfl
  | .tr _ _ _ => rfl
theorem mapOs_id0 : ∀ vs : List AV, AV.mapOs (fun i fz e sz xs => .own i fz e sz xs) .ptr (fun d i fz e sz xs k off => .eptr d i fz e sz xs k off) (fun _ => .nils) vs = vs
  | [] => rfl
  | v :: vs => by simp -implicitDefEqProofs only [AV.mapOs]; rw [mapO_id0 v, mapOs_id0 vs]
end
theorem stmapO_id {st : St} : st.mapO (fun i fz e sz xs => .own i fz e sz xs) .ptr (fun d i fz e sz xs k off => .eptr d i fz e sz xs k off) = st := by
  obtain ⟨sl, bx, nx, nt, tr⟩ := st
  simp -implicitDefEqProofs only [St.mapO]
  have h1 : (sl.map fun p => (p.1, AV.mapO (fun i fz e sz xs => .own i fz e sz xs) .ptr (fun d i fz e sz xs k off => .eptr d i fz e sz xs k off) (fun _ => .nils) p.2)) = sl := by
    have : (fun p : Nat × AV => (p.1, AV.mapO (fun i fz e sz xs => .own i fz e sz xs) .ptr (fun d i fz e sz xs k off => .eptr d i fz e sz xs k off) (fun _ => .nils) p.2)) = id := funext fun p => by rw [mapO_id0]; rfl
    rw [this, List.map_id]
  have h2 : (bx.map fun p => (p.1, AV.mapOs (fun i fz e sz xs => .own i fz e sz xs) .ptr (fun d i fz e sz xs k off => .eptr d i fz e sz xs k off) (fun _ => .nils) p.2)) = bx := by
    have : (fun p : Nat × List AV => (p.1, AV.mapOs (fun i fz e sz xs => .own i fz e sz xs) .ptr (fun d i fz e sz xs k off => .eptr d i fz e sz xs k off) (fun _ => .nils) p.2)) = id := funext fun p => by rw [mapOs_id0]; rfl
    rw [this, List.map_id]
  rw [h1, h2]
def scrO (ids : List Nat) (i : Nat) (fz : Bool) (e sz : Nat) (xs : List AV) : AV := if i ∈ ids then .undef else .own i fz e sz xs
def scrE (ids : List Nat) (d : Bool) (i : Nat) (fz : Bool) (e sz : Nat) (xs : List AV) (k off : Nat) : AV := if i ∈ ids then .undef else .eptr d i fz e sz xs k off
theorem scrub_all {ids : List Nat} {st : St} : st.scrub ids = st.mapO (scrO ids) .ptr (scrE ids) := by
  cases ids with
  | cons => rfl
  | nil =>
    have h1 : scrO [] = fun i fz e sz xs => AV.own i fz e sz xs := by funext i fz e sz xs; simp [scrO]
    have h2 : scrE [] = fun d i fz e sz xs k off => AV.eptr d i fz e sz xs k off := by funext d i fz e sz xs k off; simp [scrE]
    rw [h1, h2, stmapO_id]
    rfl
theorem append_argsR {t u id id2 nid : Nat} {x y : Cond} {dst : Option Nat} {st : St} (htu : t = 59) (hu : u = t) (ht : st.tree = false) (hl : x.args.length ≤ 1000000) :
    evAppend E.P t u (argsR id x) (.own id2 false 61 4 [.agg [.int .i64 y.op, .int .i64 y.a, .int .i64 y.b, .sl true (y.args.map (Cond.enc true))]]) nid dst st = (st.mapO (scrO (rowsD id x)) .ptr (scrE (rowsD id x))).put dst (argsR nid ⟨x.op, x.a, x.b, x.args ++ [y]⟩) := by
  subst hu
  subst htu
  have hr : argsR nid ⟨x.op, x.a, x.b, x.args ++ [y]⟩ = .own nid false 61 4 (x.args.map (Cond.enc true) ++ [y.enc true]) := by
    unfold argsR
    rw [rowN_ne (by simp)]
    simp
  rw [hr, ← scrub_all]
  have hm1 : (x.args.length + 1) * 48 ≤ 140737488355328 := by omega
  have hm2 : x.args.length + 1 ≤ 9223372036854775807 := by omega
  have hm9 : x.args.length ≤ 9223372036854775806 := by omega
  have hpl : plains [.agg [.int .i64 y.op, .int .i64 y.a, .int .i64 y.b, .sl true (y.args.map (Cond.enc true))]] = true := rfl
  rcases argsR_cases x with ⟨h0, h⟩ | ⟨_, h⟩
  · rw [(h _).1, (h _).2, h0]
    simp -implicitDefEqProofs only [W3, ↓D3, ↓DA, ↓DP, ↓DC, hpl, enc_Cond, ht, SH, Int.reduceToNat, id_eq, Int.reduceBEq, Int.reduceLE, Int.reduceLT, Nat.reduceAdd, Nat.reduceEqDiff, Nat.reduceLT, Nat.reduceLeDiff, Nat.reduceMul, Nat.reduceSub, reduceIte]
  · rw [(h _).1, (h _).2]
    simp -implicitDefEqProofs only [W3, ↓D3, ↓DA, ↓DP, ↓DC, hpl, enc_Cond, ht, hm1, hm2, hm9, SH, Int.reduceToNat, id_eq, Int.reduceBEq, Int.reduceLE, Int.reduceLT, Nat.reduceAdd, Nat.reduceEqDiff, Nat.reduceLT, Nat.reduceLeDiff, Nat.reduceMul, Nat.reduceSub, reduceIte]
theorem append_leafR {t u id id2 nid : Nat} {x y : Cond} {dst : Option Nat} {st : St} (hy : y.args = []) (htu : t = 59) (hu : u = t) (ht : st.tree = false) (hl : x.args.length ≤ 1000000) :
    evAppend E.P t u (argsR id x) (.own id2 false 61 4 [.agg [.int .i64 y.op, .int .i64 y.a, .int .i64 y.b, .sl true []]]) nid dst st = (st.mapO (scrO (rowsD id x)) .ptr (scrE (rowsD id x))).put dst (argsR nid ⟨x.op, x.a, x.b, x.args ++ [y]⟩) := by
  have := append_argsR (id := id) (id2 := id2) (nid := nid) (x := x) (y := y) (dst := dst) htu hu ht hl
  rw [hy] at this
  exact this
def anyCondN (bs : List Int) (x : Cond) (i : Nat) (h : Int) : Nat → Draw Cond
  | 0 => (⟨below1 bs 11 i h, x.a, x.b, x.args⟩, belowI bs 11 i, belowH 11 h)
  | 1 => (⟨x.op, oneOf bs [-1, 0, 3, 4, 5, 6, 10000, 10001] i h, x.b, x.args⟩, belowI bs ((8 : Nat) : Int) i, belowH ((8 : Nat) : Int) h)
  | 2 => (⟨x.op, x.a, oneOf bs [-1, 0, 10000, 10001] i h, x.args⟩, belowI bs ((4 : Nat) : Int) i, belowH ((4 : Nat) : Int) h)
  | 3 => (⟨x.op, x.a, x.b, x.args ++ [(leafD bs i h).1]⟩, (leafD bs i h).2.1, (leafD bs i h).2.2)
  | _ => (x, i, h)
def anyCondD (bs : List Int) (i : Nat) (h : Int) : Draw Cond :=
  anyCondN bs (condD bs 2 i h).1 (belowI bs 8 (condD bs 2 i h).2.1) (belowH 8 (condD bs 2 i h).2.2) (below1 bs 8 (condD bs 2 i h).2.1 (condD bs 2 i h).2.2).toNat
theorem r_spec_l15Any {fl : Bool} (k : Nat) (hk : 290271069732864 + 10 ≤ k) (bs : List Int) (hb : bs.length ≤ 140737488355328) (i : Nat) (h : Int) :
    run E noExt k 92 [.ptr 0 0] [[.sl fl (bs.map byteA), .int .i64 (i : Nat), .int .i64 h]] = some ((anyCondD bs i h).1.dAV, [[.sl fl (bs.map byteA), .int .i64 ((anyCondD bs i h).2.1 : Nat), .int .i64 (anyCondD bs i h).2.2]]) := by
  have c1 := fun n i h => r_spec_l1Below (fl := fl) (k - 1) (by omega) bs hb n i h
  have c2 := fun i h => r_spec_l1Int (fl := fl) (k - 1) (by omega) bs hb [-1, 0, 3, 4, 5, 6, 10000, 10001] (by decide) i h
  have c3 := fun i h => r_spec_l1Int (fl := fl) (k - 1) (by omega) bs hb [-1, 0, 10000, 10001] (by decide) i h
  have c4 := fun i h => r_spec_l15CondZ (fl := fl) (k - 1) (by omega) bs hb i h
  have c5 := fun i h => r_spec_l15Leaf (fl := fl) (k - 1) (by omega) bs hb i h
  have hlt := below_lt bs (n := 8) (by omega) (by omega) (condD bs 2 i h).2.1 (condD bs 2 i h).2.2
  have hleaf : ∀ id i h, argsR id (leafD bs i h).1 = .nils := fun id i h => argsR_nil (leafN_args _)
  have hleaf2 : ∀ i h, (leafD bs i h).1.args = [] := fun i h => leafN_args _
  have hlen : (condD bs 2 i h).1.args.length ≤ 1000000 := by have := condD_len bs 2 i h; omega
  obtain ⟨k, rfl⟩ : ∃ j, k = j + 1 := ⟨k - 1, by omega⟩
  rw [run_succ rfl rfl, body_eq (nt := 35) (fn := Go.Proofs.Tryz.f92) (by kernel_rfl) rfl rfl rfl rfl rfl rfl rfl rfl]
  simp -implicitDefEqProofs only [Nat.add_sub_cancel, dAV_D, List.map_cons, List.map_nil, List.length_cons, List.length_nil, Nat.zero_add, Nat.reduceAdd] at c1 c2 c3 c4 c5
  unfold anyCondD
  have c6 := c4 i h
  generalize condD bs 2 i h = X at *
  generalize hd : below1 bs 8 X.2.1 X.2.2 = d at *
  have hm : d = 0 ∨ d = 1 ∨ d = 2 ∨ d = 3 ∨ d = 4 ∨ d = 5 ∨ d = 6 ∨ d = 7 := by omega
  rcases hm with rfl | rfl | rfl | rfl | rfl | rfl | rfl | rfl
  all_goals
    simp -implicitDefEqProofs only [W3, ↓D3, anyCondN, Int.reduceToNat, dAV_D, argsR_mk, rowsD_mk, hlen, hleaf, append_leafR, hleaf2, hd, finish_cell1, finish_cell2, finCell_some, Go.Proofs.Tryz.f92, c1, c2, c3, c5, c6, plan_92_10, rows_argsR, boxes_argsR, ↓isCell_argsR, cells_argsR, cellsX_agg, cellsX_int, cellsX_bool, cellsX_str, cellsX_nils, cellsX_sl, cellsX_own, cellsX_ptr, cellsX_cptr, cellsX_undef, dedup_rowsD, nodup_rowsD, all_rowsD, all_rowsT, small_rowsD, bad_argsR, ptr_argsR, mapO_argsR, imp_argsR, lend_argsR4, shut_argsR, mem_rowsD, allmem_rowsD, after_D, freeze_ite, frzB_argsR, away_argsR, calm_argsR, opS_store, slidP_ptr, opS_call, slidM_io1, slidM_io2, away_F, away_ptr, away_int, away_bool, away_nils, away_undef, away_sl, away_agg, away_own, look_nil, evCall_io1, evCall_io2, evCall_io3, evCall_io4, finJ_1, finJ_2, finJ_3, finJ_4, finJ_int, finJ_bool, finJ_str, finJ_nils, finJ_agg, finJ_own, finJ_sl, finJ_tup, look_cons, reduceCtorEq, evCall_mutOwn, evCall_mutAgg, evGive, giveRows, ioBoxes, mutArgs, roArgs, handArg, mutSlots, isPtrB, pairs, pairss, back_nil, back_cons, backO, backE, setBoxes, importB, mode_mut, mode_give, mode_io, mode_ro, List.zip_cons_cons, List.zip_nil_left, List.zip_nil_right, ite_self, ite_true, ite_false, finish_give, finish_mut1, finish_io0, finish_io2, finish_io3, finish_ioc, finI, finC, finW_ptr, SH, noref, isRef, isPtr, noPtr, isBad, AV.isUndef, id_eq, Int.reduceBEq, Int.reduceLE, Int.reduceLT, AV.isCell, Value.cells, Nat.reduceAdd, Nat.reduceEqDiff, Nat.reduceLT, Nat.reduceLeDiff, Nat.reduceMul, Nat.reduceSub, reduceIte]
    try trace_state
def ruleN (bs : List Int) (e a : Int) (c : Cond) (i : Nat) (h : Int) : Bool → Draw Rule
  | true => (⟨e, a, (nameD bs 4 i h).1, c⟩, (nameD bs 4 i h).2.1, (nameD bs 4 i h).2.2)
  | false => (⟨e, a, -1, c⟩, i, h)
def ruleC (bs : List Int) (e a : Int) (C : Draw Cond) : Draw Rule := ruleN bs e a C.1 (belowI bs 2 C.2.1) (belowH 2 C.2.2) (below1 bs 2 C.2.1 C.2.2 == 0)
def ruleD (bs : List Int) (i : Nat) (h : Int) : Draw Rule :=
  ruleC bs (oneOf bs [1, 1, 1, 0] i h) (oneOf bs [-1, 0, 1, -1] (belowI bs ((4 : Nat) : Int) i) (belowH ((4 : Nat) : Int) h))
    (condD bs 2 (belowI bs ((4 : Nat) : Int) (belowI bs ((4 : Nat) : Int) i)) (belowH ((4 : Nat) : Int) (belowH ((4 : Nat) : Int) h)))
noncomputable def Rule.dAV (r : Rule) : AV := .agg [.int .i64 r.effect, .int .i64 r.action, .int .i64 r.object, .int .i64 r.cond.op, .int .i64 r.cond.a, .int .i64 r.cond.b, argsR 0 r.cond]
theorem r_spec_l19Rule {fl : Bool} (k : Nat) (hk : 290271069732864 + 10 ≤ k) (bs : List Int) (hb : bs.length ≤ 140737488355328) (i : Nat) (h : Int) :
    run E noExt k 89 [.ptr 0 0] [[.sl fl (bs.map byteA), .int .i64 (i : Nat), .int .i64 h]] = some ((ruleD bs i h).1.dAV, [[.sl fl (bs.map byteA), .int .i64 ((ruleD bs i h).2.1 : Nat), .int .i64 (ruleD bs i h).2.2]]) := by
  have c1 := fun n i h => r_spec_l1Once (fl := fl) (k - 1) (by omega) bs hb n i h
  have c2 := fun i h => r_spec_l1Int (fl := fl) (k - 1) (by omega) bs hb [1, 1, 1, 0] (by decide) i h
  have c3 := fun i h => r_spec_l1Int (fl := fl) (k - 1) (by omega) bs hb [-1, 0, 1, -1] (by decide) i h
  have c4 := fun i h => r_spec_l15CondZ (fl := fl) (k - 1) (by omega) bs hb i h
  have c5 := fun n i h => r_spec_l5Name (fl := fl) (k - 1) (by omega) bs hb n i h
  obtain ⟨k, rfl⟩ : ∃ j, k = j + 1 := ⟨k - 1, by omega⟩
  rw [run_succ rfl rfl, body_eq (nt := 19) (fn := Go.Proofs.Tryz.f89) (by kernel_rfl) rfl rfl rfl rfl rfl rfl rfl rfl]
  simp -implicitDefEqProofs only [Nat.add_sub_cancel, dAV_D, List.map_cons, List.map_nil, List.length_cons, List.length_nil, Nat.zero_add, Nat.reduceAdd] at c1 c2 c3 c4 c5
  unfold ruleD
  have c6 := c4 (belowI bs ((4 : Nat) : Int) (belowI bs ((4 : Nat) : Int) i)) (belowH ((4 : Nat) : Int) (belowH ((4 : Nat) : Int) h))
  generalize condD bs 2 (belowI bs ((4 : Nat) : Int) (belowI bs ((4 : Nat) : Int) i)) (belowH ((4 : Nat) : Int) (belowH ((4 : Nat) : Int) h)) = X at *
  cases hd : below1 bs 2 X.2.1 X.2.2 == 0
  all_goals
    simp -implicitDefEqProofs only [W3, ↓D3, Rule.dAV, ruleC, ruleN, hd, finish_cell1, finish_cell2, finCell_some, Go.Proofs.Tryz.f89, c1, c2, c3, c5, c6, rows_argsR, boxes_argsR, ↓isCell_argsR, cells_argsR, cellsX_agg, cellsX_int, cellsX_bool, cellsX_str, cellsX_nils, cellsX_sl, cellsX_own, cellsX_ptr, cellsX_cptr, cellsX_undef, dedup_rowsD, nodup_rowsD, all_rowsD, all_rowsT, small_rowsD, bad_argsR, ptr_argsR, mapO_argsR, imp_argsR, lend_argsR4, shut_argsR, mem_rowsD, allmem_rowsD, after_D, freeze_ite, frzB_argsR, away_argsR, calm_argsR, opS_store, slidP_ptr, opS_call, slidM_io1, slidM_io2, away_F, away_ptr, away_int, away_bool, away_nils, away_undef, away_sl, away_agg, away_own, look_nil, evCall_io1, evCall_io2, evCall_io3, evCall_io4, finJ_1, finJ_2, finJ_3, finJ_4, finJ_int, finJ_bool, finJ_str, finJ_nils, finJ_agg, finJ_own, finJ_sl, finJ_tup, look_cons, reduceCtorEq, evCall_mutOwn, evCall_mutAgg, evGive, giveRows, ioBoxes, mutArgs, roArgs, handArg, mutSlots, isPtrB, pairs, pairss, back_nil, back_cons, backO, backE, setBoxes, importB, mode_mut, mode_give, mode_io, mode_ro, List.zip_cons_cons, List.zip_nil_left, List.zip_nil_right, ite_self, ite_true, ite_false, finish_give, finish_mut1, finish_io0, finish_io2, finish_io3, finish_ioc, finI, finC, finW_ptr, SH, noref, isRef, isPtr, noPtr, isBad, AV.isUndef, Int.reduceToNat, id_eq, Int.reduceBEq, Int.reduceLE, Int.reduceLT, AV.isCell, Value.cells, Nat.reduceAdd, Nat.reduceEqDiff, Nat.reduceLT, Nat.reduceLeDiff, Nat.reduceMul, Nat.reduceSub, reduceIte]
    try trace_state
end Go.Proofs.YtaojmienjikfbaaGreatDoor.Flat
