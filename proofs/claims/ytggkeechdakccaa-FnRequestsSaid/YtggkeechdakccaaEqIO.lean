/-
slices.Insert of one fact into a row of facts: the library's own text, walked.
-/
import Derived.Test.YtggkeechdakccaaFlatCF
import Derived.Shelf.Spec.SlicesInsertGrow
set_option linter.unusedVariables false
set_option linter.unusedSimpArgs false
namespace Go.Proofs.Ytggkeechdakccaa.Flat
open Go.Shelf Go.RowKit Go.Lib
section
variable {P : Program}
theorem run_copy_cellsK (w : World) (dT sT ty elem : TypeId) (k b o dLen dCap : Nat) (a : Addr) (sLen sCap : Nat) (cs : List Value)
    (hu : P.underlying dT = some (.slice elem)) (hs : (P.info? elem).map (·.size) = some k) (hn : cs.length = Nat.min sLen dLen * k)
    (hsrc : ∀ j v, cs[j]? = some v → w.cell? (a.add j) = some v) (hc : ∀ j, j < cs.length → (w.cell? ⟨b, o + j, none⟩).isSome = true) (hf : ∀ j, j < cs.length → w.frozen? ⟨b, o + j, none⟩ = false) (h1 : ∀ v ∈ cs, v.oneCell' = true) :
    (Builtin.copy_ #[dT, sT] ty #[.slice (some ⟨b, o, none⟩) dLen dCap, .slice (some a) sLen sCap]).run P w = .ok (goInt (Nat.min sLen dLen)) (w.setCells b o cs) := by
  have hl := run_loadCells_list (P := P) w a cs hsrc
  have hst := run_storeCells_cells (P := P) b o cs 0 w (by simpa using hc) (by simpa using hf) h1
  cases hq : P.info? elem with
  | none => simp [hq] at hs
  | some i =>
    have hi : i.size = k := by simpa [hq] using hs
    simp [Builtin.copy_, run_underlying hu, Builtin.lenOf, Builtin.firstCells, sizeOf, typeInfo, hq, hi, ← hn, hl, hst]
end
theorem ins_func : Go.Proofs.Try.prog.funcs[24]? = some Go.Proofs.Try.f24 := by kernel_rfl
theorem ins_ntmps : Go.Proofs.Try.f24.ntmps = 95 := rfl
theorem ov_func : Go.Proofs.Try.prog.funcs[43]? = some Go.Proofs.Try.f43 := by kernel_rfl
theorem ins_t0 : Go.Proofs.Try.prog.underlying 0 = some (TypeDesc.tuple #[]) := by kernel_rfl
set_option maxHeartbeats 4000000 in
set_option maxRecDepth 100000 in
theorem ins_shift (b off n c i vb voff vc : Nat) (cs vs : List Value) (w : World) (hi : i < n) (hroom : n + 1 ≤ c) (hc63 : c ≤ 9223372036854775807) (hvb : vb ≠ b)
    (hcl : cs.length = n * 6) (hvl : vs.length = 6)
    (hcs : ∀ j v, cs[j]? = some v → w.cell? ⟨b, off + j, none⟩ = some v) (hsp : ∀ j, j < (n + 1) * 6 → (w.cell? ⟨b, off + j, none⟩).isSome = true) (hfz : ∀ j, j < (n + 1) * 6 → w.frozen? ⟨b, off + j, none⟩ = false)
    (hvs : ∀ j v, vs[j]? = some v → w.cell? ⟨vb, voff + j, none⟩ = some v) (h1c : ∀ v ∈ cs, v.oneCell' = true) (h1v : ∀ v ∈ vs, v.oneCell' = true)
    (tA tB : TypeId) (kA kB : Nat) (hsa : w.shape? vb = some (tA, kA)) (hsb : w.shape? b = some (tB, kB)) (hkB : kB ≠ 0) (hfa : w.frozen? ⟨vb, voff, none⟩ = false) (hfe : w.frozen? ⟨vb, kA, none⟩ = false) :
    Calls Go.Proofs.Try.prog 24 #[.slice (some ⟨b, off, none⟩) n c, .int .i64 i, .slice (some ⟨vb, voff, none⟩) 1 vc] w fun e w' =>
      e = .returned (.slice (some ⟨b, off, none⟩) (n + 1) c) ∧ w' = (w.drew.setCells b (off + (i + 1) * 6) (cs.drop (i * 6))).setCells b (off + i * 6) vs := by
  have t0 := ins_t0
  have t3 : Go.Proofs.Try.prog.underlying 3 = some (.int .i64) := by kernel_rfl
  have t4 : Go.Proofs.Try.prog.underlying 4 = some .bool := by kernel_rfl
  have t25 : Go.Proofs.Try.prog.underlying 25 = some (.slice 34) := by kernel_rfl
  have a3 := fun w => run_agg ti3 w; have z3 := fun w => run_size ti3 w; have v3 := fun w => run_zero ti3 rfl w
  have a4 := fun w => run_agg ti4 w; have z4 := fun w => run_size ti4 w; have v4 := fun w => run_zero ti4 rfl w
  have a25 := fun w => run_agg ti25 w; have z25 := fun w => run_size ti25 w; have v25 := fun w => run_zero ti25 rfl w
  have a34 := fun w => run_agg ti34 w; have z34 := fun w => run_size ti34 w
  have u3 := run_underlying t3; have u4 := run_underlying t4; have u25 := run_underlying t25
  have hz2 : ¬ ((i : Int) = (n : Int)) := by omega
  have hsz : (Go.Proofs.Try.prog.info? 34).map (·.size) = some 6 := by kernel_rfl
  have hov : ∀ lb cb, (callFunc 43 #[.slice (some ⟨vb, voff, none⟩) 1 vc, .slice (some ⟨b, off + (i + 1) * 6, none⟩) lb cb]).run Go.Proofs.Try.prog w = .ok (.value (.bool false)) w := fun lb cb => by
    rw [run_callFunc_extern ov_func (by kernel_rfl) (by kernel_rfl) (by kernel_rfl) (e := Extern.SlicesOverlaps.overlaps #[25, 25] #[4]) (by kernel_rfl),
      Lib.run_overlaps_apart w 25 4 34 t25 6 z34 ⟨vb, voff, none⟩ ⟨b, off + (i + 1) * 6, none⟩ 1 vc lb cb hvb tA tB kA kB hsa hsb hkB hfa hfe]
    rfl
  have hdl : (cs.drop (i * 6)).length = (n - i) * 6 := by rw [List.length_drop, hcl]; omega
  have mixed := mixed
  have hw1 : IntKind.i64.wrap ((i : Int) + 1) = (i : Int) + 1 := by rw [IntKind.wrap_i64]; omega
  have hb1 : (0 : Int) ≤ (i : Int) + 1 := by omega
  have hin : i ≤ n := by omega
  have htn : ((i : Int) + 1).toNat = i + 1 := by omega
  have hb2 : ¬ (c = i + 1) := by omega
  have hb3 : (i : Int) ≤ (n : Int) + 1 := by omega
  have hb4 : ¬ (c = i) := by omega
  have hcp1 : ∀ ty dc sc, (Builtin.copy_ #[25, 25] ty #[.slice (some ⟨b, off + (i + 1) * 6, none⟩) (n - i) dc, .slice (some ⟨b, off + i * 6, none⟩) (n + 1 - i) sc]).run Go.Proofs.Try.prog w.drew = .ok (goInt (Nat.min (n + 1 - i) (n - i))) (w.drew.setCells b (off + (i + 1) * 6) (cs.drop (i * 6))) := fun ty dc sc =>
    run_copy_cellsK w.drew _ _ ty 34 6 b (off + (i + 1) * 6) (n - i) dc ⟨b, off + i * 6, none⟩ (n + 1 - i) sc (cs.drop (i * 6)) t25 hsz (by rw [hdl]; simp -implicitDefEqProofs only [Nat.min_def]; split <;> omega)
      (fun j v hj => by rw [Addr.add_lit, Nat.add_assoc]; exact hcs (i * 6 + j) v (by rwa [List.getElem?_drop] at hj))
      (fun j hj => by rw [Nat.add_assoc]; exact hsp _ (by omega)) (fun j hj => by rw [Nat.add_assoc]; exact hfz _ (by omega)) (fun v hv => h1c v (List.mem_of_mem_drop hv))
  obtain ⟨W1, hW1⟩ : ∃ W1, W1 = w.drew.setCells b (off + (i + 1) * 6) (cs.drop (i * 6)) := ⟨_, rfl⟩
  have hsp1 : ∀ k, k < (n + 1) * 6 → (W1.cell? ⟨b, off + k, none⟩).isSome = true := fun k hk => by
    rw [hW1]
    exact isSome_setCells b _ _ _ (fun j hj => by rw [Nat.add_assoc]; exact hsp _ (by omega)) _ (hsp k hk)
  have hcp2 : ∀ (W : World), (∀ x, W.cell? x = W1.cell? x) → (∀ x, W.frozen? x = W1.frozen? x) → ∀ ty dc, (Builtin.copy_ #[25, 25] ty #[.slice (some ⟨b, off + i * 6, none⟩) (n + 1 - i) dc, .slice (some ⟨vb, voff, none⟩) 1 vc]).run Go.Proofs.Try.prog W = .ok (goInt (Nat.min 1 (n + 1 - i))) (W.setCells b (off + i * 6) vs) := fun W hWc hWf ty dc =>
    run_copy_cellsK W _ _ ty 34 6 b (off + i * 6) (n + 1 - i) dc ⟨vb, voff, none⟩ 1 vc vs t25 hsz (by rw [hvl]; simp -implicitDefEqProofs only [Nat.min_def]; split <;> omega)
      (fun j v hj => by
        rw [Addr.add_lit, hWc, hW1, World.cell?_setCells_out b _ _ _ _ (fun h _ => absurd h hvb)]
        exact hvs j v hj)
      (fun j hj => by rw [hWc, Nat.add_assoc]; exact hsp1 _ (by omega)) (fun j hj => by rw [hWf, hW1, World.frozen?_setCells, Nat.add_assoc]; exact hfz _ (by omega)) h1v
  rw [← hW1] at hcp1
  go_enter ins_func, ins_ntmps
  go_wp2_with (simp -implicitDefEqProofs only [hov])
  go_region_law_o (refine step_copy_runI rfl _ _ 25 25 rfl _ _ (by simp [Act.eval, Act.put]) (by simp [Act.eval, Act.put]) (hcp1 _ _ _) ?_)
  go_wp2_with (at_builtin; refine wpList_copy_runI _ rfl _ _ 25 25 rfl _ _ rfl rfl (hcp2 _ (fun _ => rfl) (fun _ => rfl) _ _) ?_)
  go_ret
  first | exact ⟨rfl, rfl⟩ | exact ⟨rfl, by rw [hW1]⟩
abbrev zFact : Value := (Value.agg #[Value.int IntKind.i64 0, Value.int IntKind.i64 0, Value.int IntKind.i64 0, Value.int IntKind.i64 0, Value.int IntKind.i64 0, Value.int IntKind.i64 0])
theorem ins_i34 : (Go.Proofs.Try.prog.info? 34).map (fun i => (i.zero, i.size, i.bytes)) = some (some zFact, 6, 48) := by kernel_rfl
set_option maxHeartbeats 4000000 in
set_option maxRecDepth 100000 in
theorem ins_end_room (b off n c vb voff vc : Nat) (vs : List Value) (w : World) (hroom : n + 1 ≤ c) (hc63 : c ≤ 9223372036854775807)
    (hvl : vs.length = 6) (hsp : ∀ j, j < 6 → (w.cell? ⟨b, off + n * 6 + j, none⟩).isSome = true) (hfz : ∀ j, j < 6 → w.frozen? ⟨b, off + n * 6 + j, none⟩ = false)
    (hvs : ∀ j v, vs[j]? = some v → w.cell? ⟨vb, voff + j, none⟩ = some v) (h1v : ∀ v ∈ vs, v.oneCell' = true) :
    Calls Go.Proofs.Try.prog 24 #[.slice (some ⟨b, off, none⟩) n c, .int .i64 n, .slice (some ⟨vb, voff, none⟩) 1 vc] w fun e w' =>
      e = .returned (.slice (some ⟨b, off, none⟩) (n + 1) c) ∧ w' = w.setCells b (off + n * 6) vs := by
  have t0 := ins_t0
  have t3 : Go.Proofs.Try.prog.underlying 3 = some (.int .i64) := by kernel_rfl
  have t4 : Go.Proofs.Try.prog.underlying 4 = some .bool := by kernel_rfl
  have t25 : Go.Proofs.Try.prog.underlying 25 = some (.slice 34) := by kernel_rfl
  have a3 := fun w => run_agg ti3 w; have z3 := fun w => run_size ti3 w; have v3 := fun w => run_zero ti3 rfl w
  have a4 := fun w => run_agg ti4 w; have z4 := fun w => run_size ti4 w; have v4 := fun w => run_zero ti4 rfl w
  have a25 := fun w => run_agg ti25 w; have z25 := fun w => run_size ti25 w; have v25 := fun w => run_zero ti25 rfl w
  have a34 := fun w => run_agg ti34 w; have z34 := fun w => run_size ti34 w
  have u3 := run_underlying t3; have u4 := run_underlying t4; have u25 := run_underlying t25
  have mixed := mixed
  obtain ⟨i0, hi0, hz0, hzs, hzb⟩ := info_parts ins_i34
  have hsrc : Src Go.Proofs.Try.prog i0.size 25 (.slice (some ⟨vb, voff, none⟩) 1 vc) 1 vs w := by
    rw [hzs]
    exact Src.ofSlice w t25 ⟨vb, voff, none⟩ 1 vc vs (by omega) (fun j u hj => by rw [Addr.add_lit]; exact hvs j u hj) h1v
  have hrun : ∀ ty, (Builtin.append_ #[25, 25] ty #[.slice (some ⟨b, off, none⟩) n c, .slice (some ⟨vb, voff, none⟩) 1 vc]).run Go.Proofs.Try.prog w = _ := fun ty =>
    run_append_room_src w 25 25 ty 34 i0 t25 hi0 b off n c _ 1 vs hsrc hroom (by rw [hvl, hzs]; exact hsp) (by rw [hvl, hzs]; exact hfz)
  rw [hzs] at hrun
  clear hsrc hi0 hz0 hzs hzb
  go_enter ins_func, ins_ntmps
  go_wp2_with (at_builtin; refine Lib.wpList_append_run _ rfl _ _ _ _ rfl _ _ rfl rfl _ _ (hrun _) ?_)
  go_ret
  exact ⟨rfl, rfl⟩
set_option maxHeartbeats 4000000 in
set_option maxRecDepth 100000 in
theorem ins_end_grow (base : Option Addr) (n c vb voff vc : Nat) (cs vs : List Value) (w : World) (hnc : n ≤ c) (hroom : c < n + 1) (hbig : (n + 1) * 48 ≤ 140737488355328)
    (hcl : cs.length = n * 6) (hvl : vs.length = 6) (hnil : base = none → n = 0)
    (hcs : ∀ a, base = some a → ∀ j v, cs[j]? = some v → w.cell? (a.add j) = some v)
    (hvs : ∀ j v, vs[j]? = some v → w.cell? ⟨vb, voff + j, none⟩ = some v) (h1v : ∀ v ∈ vs, v.oneCell' = true) :
    Calls Go.Proofs.Try.prog 24 #[.slice base n c, .int .i64 n, .slice (some ⟨vb, voff, none⟩) 1 vc] w fun e w' =>
      e = .returned (.slice (some ⟨w.heap.size, 0, none⟩) (n + 1) (grownCap w (n + 1) c 34)) ∧
      w' = w.drew.alloc (.cells ((cs ++ vs).toArray ++ Builtin.zeroCells zFact.cells (grownCap w (n + 1) c 34 - (n + 1))) 34) := by
  have t0 := ins_t0
  have t3 : Go.Proofs.Try.prog.underlying 3 = some (.int .i64) := by kernel_rfl
  have t4 : Go.Proofs.Try.prog.underlying 4 = some .bool := by kernel_rfl
  have t25 : Go.Proofs.Try.prog.underlying 25 = some (.slice 34) := by kernel_rfl
  have a3 := fun w => run_agg ti3 w; have z3 := fun w => run_size ti3 w; have v3 := fun w => run_zero ti3 rfl w
  have a4 := fun w => run_agg ti4 w; have z4 := fun w => run_size ti4 w; have v4 := fun w => run_zero ti4 rfl w
  have a25 := fun w => run_agg ti25 w; have z25 := fun w => run_size ti25 w; have v25 := fun w => run_zero ti25 rfl w
  have a34 := fun w => run_agg ti34 w; have z34 := fun w => run_size ti34 w
  have u3 := run_underlying t3; have u4 := run_underlying t4; have u25 := run_underlying t25
  have mixed := mixed
  obtain ⟨i0, hi0, hz0, hzs, hzb⟩ := info_parts ins_i34
  have hsrc : Src Go.Proofs.Try.prog i0.size 25 (.slice (some ⟨vb, voff, none⟩) 1 vc) 1 vs w := by
    rw [hzs]
    exact Src.ofSlice w t25 ⟨vb, voff, none⟩ 1 vc vs (by omega) (fun j u hj => by rw [Addr.add_lit]; exact hvs j u hj) h1v
  have hold : (Builtin.firstCells i0.size n (.slice base n c)).run Go.Proofs.Try.prog w.drew = .ok cs.toArray w.drew := by
    rw [hzs]
    cases base with
    | none =>
      have h0 := hnil rfl
      subst h0
      rw [List.length_eq_zero_iff.1 (hcl.trans (Nat.zero_mul _))]
      exact run_firstCells_none w.drew 6 0 0 c
    | some a => exact run_firstCells_some w.drew 6 n a n c cs (by omega) (fun j v hj => hcs a rfl j v hj)
  have hrun : ∀ ty, (Builtin.append_ #[25, 25] ty #[.slice base n c, .slice (some ⟨vb, voff, none⟩) 1 vc]).run Go.Proofs.Try.prog w = _ := fun ty =>
    run_append_grow_src w 25 25 ty 34 i0 _ t25 hi0 hz0 base n c cs hold _ 1 vs hsrc hroom (by omega) (by rw [hzb]; exact growslice_fits hroom hbig)
  clear hsrc hold hi0 hz0 hzs hzb
  go_enter ins_func, ins_ntmps
  cases base with
  | none =>
    have h0 := hnil rfl
    subst h0
    go_wp2_with (at_builtin; refine Lib.wpList_append_run _ rfl _ _ _ _ rfl _ _ rfl rfl _ _ (hrun _) ?_)
    go_ret
    exact ⟨rfl, rfl⟩
  | some a =>
    obtain ⟨ab, ao, asp⟩ := a
    go_wp2_with (at_builtin; refine Lib.wpList_append_run _ rfl _ _ _ _ rfl _ _ rfl rfl _ _ (hrun _) ?_)
    all_goals (go_ret; exact ⟨rfl, rfl⟩)
set_option maxHeartbeats 4000000 in
set_option maxRecDepth 100000 in
theorem ins_grow (b off n c i vb voff vc : Nat) (cs vs : List Value) (w : World) (hi : i < n) (hnc : n ≤ c) (hroom : c < n + 1) (hbig : (n + 1) * 48 ≤ 140737488355328)
    (hcl : cs.length = n * 6) (hvl : vs.length = 6)
    (hcs : ∀ j v, cs[j]? = some v → w.cell? ⟨b, off + j, none⟩ = some v)
    (hvs : ∀ j v, vs[j]? = some v → w.cell? ⟨vb, voff + j, none⟩ = some v) (h1c : ∀ v ∈ cs, v.oneCell' = true) (h1v : ∀ v ∈ vs, v.oneCell' = true) :
    Calls Go.Proofs.Try.prog 24 #[.slice (some ⟨b, off, none⟩) n c, .int .i64 i, .slice (some ⟨vb, voff, none⟩) 1 vc] w fun e w' =>
      e = .returned (.slice (some ⟨w.heap.size, 0, none⟩) (n + 1) (grownCap w (n + 1) c 34)) ∧
      w' = (((w.alloc (.cells ((cs.take (i * 6)).toArray ++ Builtin.zeroCells zFact.cells (n + 1 - i) ++ Builtin.zeroCells zFact.cells (grownCap w (n + 1) c 34 - (n + 1))) 34)).drew.setCells w.heap.size (i * 6) vs).drew).setCells w.heap.size ((i + 1) * 6) (cs.drop (i * 6)) := by
  have t0 := ins_t0
  have t3 : Go.Proofs.Try.prog.underlying 3 = some (.int .i64) := by kernel_rfl
  have t4 : Go.Proofs.Try.prog.underlying 4 = some .bool := by kernel_rfl
  have t25 : Go.Proofs.Try.prog.underlying 25 = some (.slice 34) := by kernel_rfl
  have a3 := fun w => run_agg ti3 w; have z3 := fun w => run_size ti3 w; have v3 := fun w => run_zero ti3 rfl w
  have a4 := fun w => run_agg ti4 w; have z4 := fun w => run_size ti4 w; have v4 := fun w => run_zero ti4 rfl w
  have a25 := fun w => run_agg ti25 w; have z25 := fun w => run_size ti25 w; have v25 := fun w => run_zero ti25 rfl w
  have a34 := fun w => run_agg ti34 w; have z34 := fun w => run_size ti34 w
  have u3 := run_underlying t3; have u4 := run_underlying t4; have u25 := run_underlying t25
  have mixed := mixed
  obtain ⟨i0, hi0, hz0, hzs, hzb⟩ := info_parts ins_i34
  have hz2 : ¬ ((i : Int) = (n : Int)) := by omega
  have hz3 : (c : Int) < (n : Int) + 1 := by omega
  have hsz : (Go.Proofs.Try.prog.info? 34).map (·.size) = some 6 := by kernel_rfl
  have hbw : b < w.heap.size := block_lt_of_cell (hcs 0 _ (List.getElem?_eq_getElem (by omega)))
  have hvw : vb < w.heap.size := block_lt_of_cell (hvs 0 _ (List.getElem?_eq_getElem (by omega)))
  have hkk : (n : Int) + 1 - (i : Int) = ((n + 1 - i : Nat) : Int) := by omega
  have hik : i + (n + 1 - i) = n + 1 := by omega
  have hold : (Builtin.firstCells i0.size i (.slice (some ⟨b, off, none⟩) i c)).run Go.Proofs.Try.prog w.drew = .ok (cs.take (i * 6)).toArray w.drew := by
    rw [hzs]
    exact run_firstCells_some w.drew 6 i ⟨b, off, none⟩ i c (cs.take (i * 6)) (by rw [List.length_take]; omega) (fun j v hj => by
      rw [Addr.add_lit]
      rw [List.getElem?_take] at hj
      split at hj
      · exact hcs j v hj
      · cases hj)
  have hrz : ∀ ty, (Builtin.append_ #[25, 3] ty #[.slice (some ⟨b, off, none⟩) i c, .int .i64 ((n : Int) + 1 - (i : Int))]).run Go.Proofs.Try.prog w =
      .ok (.slice (some ⟨w.heap.size, 0, none⟩) (n + 1) (grownCap w (n + 1) c 34)) (w.drew.alloc (.cells ((cs.take (i * 6)).toArray ++ Builtin.zeroCells zFact.cells (n + 1 - i) ++ Builtin.zeroCells zFact.cells (grownCap w (n + 1) c 34 - (n + 1))) 34)) := fun ty => by
    have h := Lib.run_append_grow_zeros w 25 3 ty 34 i0 _ .i64 .i64 t25 t3 hi0 hz0 (some ⟨b, off, none⟩) i c (cs.take (i * 6)) hold (n + 1 - i) (by omega) (by omega) (by omega) (by omega) (by rw [hzb]; omega) (by rw [hzb, hik]; exact growslice_fits hroom hbig)
    rw [hik] at h
    rw [hkk]
    exact h
  obtain ⟨G, hG⟩ : ∃ G, G = grownCap w (n + 1) c 34 := ⟨_, rfl⟩
  obtain ⟨ROW, hROW⟩ : ∃ ROW : Array Value, ROW = (cs.take (i * 6)).toArray ++ Builtin.zeroCells zFact.cells (n + 1 - i) ++ Builtin.zeroCells zFact.cells (G - (n + 1)) := ⟨_, rfl⟩
  rw [← hG] at hrz ⊢
  rw [← hROW] at hrz ⊢
  have hRl : (n + 1) * 6 ≤ ROW.size := by
    rw [hROW]
    simp [Builtin.zeroCells, Value.cells]
    omega
  obtain ⟨W1, hW1⟩ : ∃ W1, W1 = w.drew.alloc (.cells ROW 34) := ⟨_, rfl⟩
  rw [← hW1] at hrz
  have hN : ∀ j, j < (n + 1) * 6 → (W1.cell? ⟨w.heap.size, j, none⟩).isSome = true := fun j hj => by
    rw [hW1, World.cell?_alloc_at (w := w.drew) ROW _ w.heap.size j rfl, Array.getElem?_eq_getElem (by omega)]; rfl
  have hNf : ∀ j, W1.frozen? ⟨w.heap.size, j, none⟩ = false := fun j => by rw [hW1]; exact World.frozen?_alloc_at (w := w.drew) ROW _ w.heap.size j rfl
  have hOb : ∀ j v, w.cell? ⟨b, j, none⟩ = some v → W1.cell? ⟨b, j, none⟩ = some v := fun j v h => by rw [hW1, World.cell?_alloc_past (w := w.drew) _ b j hbw]; exact h
  have hOv : ∀ j v, w.cell? ⟨vb, j, none⟩ = some v → W1.cell? ⟨vb, j, none⟩ = some v := fun j v h => by rw [hW1, World.cell?_alloc_past (w := w.drew) _ vb j hvw]; exact h
  have hcpA : ∀ (W : World), (∀ x, W.cell? x = W1.cell? x) → (∀ x, W.frozen? x = W1.frozen? x) → ∀ ty dc, (Builtin.copy_ #[25, 25] ty #[.slice (some ⟨w.heap.size, i * 6, none⟩) (n + 1 - i) dc, .slice (some ⟨vb, voff, none⟩) 1 vc]).run Go.Proofs.Try.prog W = .ok (goInt (Nat.min 1 (n + 1 - i))) (W.setCells w.heap.size (i * 6) vs) := fun W hWc hWf ty dc =>
    run_copy_cellsK W _ _ ty 34 6 w.heap.size (i * 6) (n + 1 - i) dc ⟨vb, voff, none⟩ 1 vc vs t25 hsz (by rw [hvl]; simp -implicitDefEqProofs only [Nat.min_def]; split <;> omega)
      (fun j v hj => by rw [Addr.add_lit, hWc]; exact hOv _ v (hvs j v hj))
      (fun j hj => by rw [hWc]; exact hN _ (by omega)) (fun j hj => by rw [hWf]; exact hNf _) h1v
  have hGn : n + 1 ≤ G := by rw [hG]; exact grownCap_ge w _ _ _
  have hG63 : G ≤ 9223372036854775807 := by
    have := grownCap_le_maxLen w (n + 1) c 34 (by unfold maxLen; omega)
    rw [← hG] at this
    unfold maxLen at this
    omega
  have hGi : ¬ (G = i) := by omega
  have hGim : ¬ (G = i + 1) := by omega
  have hci : ¬ (c = i) := by omega
  have hbN : b ≠ w.heap.size := by omega
  have hdl : (cs.drop (i * 6)).length = (n - i) * 6 := by rw [List.length_drop, hcl]; omega
  have hcpB : ∀ (W : World), (∀ x, W.cell? x = (W1.setCells w.heap.size (i * 6) vs).cell? x) → (∀ x, W.frozen? x = (W1.setCells w.heap.size (i * 6) vs).frozen? x) → ∀ ty dc sc, (Builtin.copy_ #[25, 25] ty #[.slice (some ⟨w.heap.size, (i + 1) * 6, none⟩) (n - i) dc, .slice (some ⟨b, off + i * 6, none⟩) (n - i) sc]).run Go.Proofs.Try.prog W = .ok (goInt (Nat.min (n - i) (n - i))) (W.setCells w.heap.size ((i + 1) * 6) (cs.drop (i * 6))) := fun W hWc hWf ty dc sc =>
    run_copy_cellsK W _ _ ty 34 6 w.heap.size ((i + 1) * 6) (n - i) dc ⟨b, off + i * 6, none⟩ (n - i) sc (cs.drop (i * 6)) t25 hsz (by rw [hdl]; simp -implicitDefEqProofs only [Nat.min_def]; split <;> omega)
      (fun j v hj => by
        rw [Addr.add_lit, hWc, World.cell?_setCells_out _ _ _ _ _ (fun h _ => absurd h hbN), Nat.add_assoc]
        exact hOb _ v (hcs (i * 6 + j) v (by rwa [List.getElem?_drop] at hj)))
      (fun j hj => by rw [hWc]; exact isSome_setCells _ _ _ _ (fun t ht => hN _ (by omega)) _ (hN _ (by omega)))
      (fun j hj => by rw [hWf, World.frozen?_setCells]; exact hNf _) (fun v hv => h1c v (List.mem_of_mem_drop hv))
  subst hW1
  have hE1 : ∀ x, ((w.alloc (.cells ROW 34)).drew).cell? x = (w.drew.alloc (.cells ROW 34)).cell? x := fun x => rfl
  have hE2 : ∀ x, ((w.alloc (.cells ROW 34)).drew).frozen? x = (w.drew.alloc (.cells ROW 34)).frozen? x := fun x => rfl
  have hF1 : ∀ x, (((w.alloc (.cells ROW 34)).drew.setCells w.heap.size (i * 6) vs).drew).cell? x = ((w.drew.alloc (.cells ROW 34)).setCells w.heap.size (i * 6) vs).cell? x := fun x => rfl
  have hF2 : ∀ x, (((w.alloc (.cells ROW 34)).drew.setCells w.heap.size (i * 6) vs).drew).frozen? x = ((w.drew.alloc (.cells ROW 34)).setCells w.heap.size (i * 6) vs).frozen? x := fun x => rfl
  have hw1 : IntKind.i64.wrap ((i : Int) + 1) = (i : Int) + 1 := by rw [IntKind.wrap_i64]; omega
  have hb1 : (0 : Int) ≤ (i : Int) + 1 := by omega
  have hin : i ≤ n := by omega
  have htn : ((i : Int) + 1).toNat = i + 1 := by omega
  have hb3 : (i : Int) ≤ (n : Int) := by omega
  clear hkk hik hold hROW hG hRl hi0 hz0 hzs hzb
  go_enter ins_func, ins_ntmps
  go_wp2_with (first
    | (at_builtin; refine Lib.wpList_append_run _ rfl _ _ _ _ rfl _ _ rfl rfl _ _ (hrz _) ?_)
    | (at_builtin; refine wpList_copy_runI _ rfl _ _ 25 25 rfl _ _ rfl rfl (hcpA _ hE1 hE2 _ _) ?_)
    | (at_builtin; refine wpList_copy_runI _ rfl _ _ 25 25 rfl _ _ rfl rfl (hcpB _ (fun _ => rfl) (fun _ => rfl) _ _ _) ?_))
  go_region_law_o (refine step_copy_runI rfl _ _ 25 25 rfl (.slice (some ⟨w.heap.size, (i + 1) * 6, none⟩) (n - i) (G - (i + 1))) (.slice (some ⟨b, off + i * 6, none⟩) (n - i) (c - i)) (by simp [Act.eval, Act.put]) (by simp [Act.eval, Act.put]) (hcpB _ hF1 hF2 3 (G - (i + 1)) (c - i)) ?_)
  go_wp2
  go_ret
  exact ⟨rfl, rfl⟩
open Go.Shelf Go.RowKit Go.Lib
theorem six_of {x : AV} (h : six x = true) : x.cells.length = 6 ∧ ∀ y ∈ x.cells, isInt y = true := by
  have : x.cells.length = 6 ∧ x.cells.all isInt = true := by simpa [six] using h
  exact ⟨this.1, List.all_eq_true.1 this.2⟩
theorem valI_one {y : AV} (h : isInt y = true) : (valI y).oneCell' = true := by cases y <;> simp [isInt] at h; rfl
theorem RO.valI {w : World} {S : Cells} {y : AV} {v : Value} (h : RO w S y v) (hi : isInt y = true) : v = Flat.valI y := by
  cases y <;> simp [isInt] at hi
  cases h
  rfl
theorem TR.valI {w : World} {S : Cells} {F : Nat → Prop} {y : AV} {v : Value} (h : TR w S F y v) (hi : isInt y = true) : v = Flat.valI y := by
  refine (h.toRO fun e sz xs he => ?_).valI hi
  rw [he] at hi
  simp [isInt] at hi
theorem flat_six {xs : List AV} (h : xs.all six = true) : (flat xs).length = xs.length * 6 ∧ ∀ y ∈ flat xs, isInt y = true :=
  ⟨flat_length fun x hx => (six_of (List.all_eq_true.1 h x hx)).1, fun y hy => by
    obtain ⟨x, hx, hyx⟩ := List.mem_flatMap.1 hy
    exact (six_of (List.all_eq_true.1 h x hx)).2 y hyx⟩
theorem flat_split {xs : List AV} (h : xs.all six = true) {m : Nat} (hm : m ≤ xs.length) : flat (xs.take m) = (flat xs).take (m * 6) ∧ flat (xs.drop m) = (flat xs).drop (m * 6) := by
  have h1 : (xs.take m).all six = true := List.all_eq_true.2 fun x hx => List.all_eq_true.1 h x (List.mem_of_mem_take hx)
  have h2 : flat xs = flat (xs.take m) ++ flat (xs.drop m) := by rw [← flat_append, List.take_append_drop]
  have h3 : (flat (xs.take m)).length = m * 6 := by rw [(flat_six h1).1, List.length_take]; congr 1; omega
  constructor
  · rw [h2, List.take_left' h3]
  · rw [h2, List.drop_left' h3]
theorem getD_mid {l1 l2 l3 : List Value} {a b : Nat} (h1 : l1.length = a) (h2 : l2.length = b) (j : Nat) : (l1 ++ l2 ++ l3).getD j undef = if j < a then l1.getD j undef else if j < a + b then l2.getD (j - a) undef else l3.getD (j - (a + b)) undef := by
  subst h1 h2
  simp -implicitDefEqProofs only [List.getD_eq_getElem?_getD]
  split
  · rename_i h; rw [List.append_assoc, List.getElem?_append_left h]
  · rename_i h
    split
    · rename_i h'; rw [List.append_assoc, List.getElem?_append_right (by omega), List.getElem?_append_left (by omega)]
    · rename_i h'; rw [List.getElem?_append_right (by simp; omega), List.length_append]
theorem ins_ok [Kept] {args : List AV} {ios fin : List (List AV)} {ret : AV} (h : insExt args ios = some (ret, fin)) : CallOK Go.Proofs.Try.prog [.give, .ro, .ro] 24 args ios ret fin := by
  unfold insExt at h
  split at h
  rotate_left
  · simp at h
  rename_i id xs i x
  split at h
  rotate_left
  · simp at h
  rename_i hcnd
  obtain ⟨hi0, hin, hx6, hxs6, hlen⟩ := hcnd
  simp -implicitDefEqProofs only [Option.some.injEq, Prod.mk.injEq] at h
  obtain ⟨rfl, rfl⟩ := h
  obtain ⟨m, rfl⟩ : ∃ m : Nat, i = m := ⟨i.toNat, (Int.toNat_of_nonneg hi0).symm⟩
  rw [Int.toNat_natCast]
  have hmn : m ≤ xs.length := by omega
  intro w G X0 cargs hl hargs hinv _ _ hnp
  obtain ⟨cv, iv, sv, rfl⟩ : ∃ a b c, cargs = #[a, b, c] := by
    obtain ⟨l⟩ := cargs
    match l, hl with
    | [a, b, c], _ => exact ⟨a, b, c, rfl⟩
  have h0 : RV w G (.own id false 34 6 xs) cv := hargs 0 (by simp)
  have h1 : RV w G (.int .i64 (m : Nat)) iv := hargs 1 (by simp)
  have h2 : RV w G (.sl true [x]) sv := hargs 2 (by simp)
  obtain ⟨hρ, hk⟩ : G.ρ id = cv ∧ RowOK w G id false 34 6 xs := by
    cases h0 with
    | ro h => cases h
    | own _ _ _ _ _ hk => exact ⟨rfl, hk⟩
  obtain rfl : iv = .int .i64 (m : Nat) := by
    cases h1 with
    | ro h => cases h; rfl
  obtain ⟨vb, voff, c', rfl, hS, hcv⟩ : ∃ vb voff c', sv = .slice (some ⟨vb, voff, none⟩) 1 c' ∧ G.S true vb voff ∧ ∀ j v, (x.cells.map valI)[j]? = some v → w.cell? ⟨vb, voff + j, none⟩ = some v := by
    cases h2 with
    | ro h =>
      cases h with
      | sl _ _ _ ad c sz cv hne hc hsp hsz hcell hS hr =>
        obtain ⟨vb, voff, sp⟩ := ad
        simp only at hsp
        subst hsp
        have hsz6 : sz = 6 := by rw [← hsz x (by simp)]; exact (six_of hx6).1
        subst hsz6
        refine ⟨vb, voff, c, rfl, by simpa using (hS 0 (by simp)).1, fun j v hj => ?_⟩
        have hjl : j < 6 := by have := (List.getElem?_eq_some_iff.1 hj).1; rw [List.length_map, (six_of hx6).1] at this; exact this
        have h3 := (hS j (by simpa using hjl)).2
        rw [add_eq rfl] at h3
        rw [h3]
        have hfx : flat [x] = x.cells := by simp [flat]
        have h4 := hr j (by rw [hfx, (six_of hx6).1]; exact hjl)
        simp -implicitDefEqProofs only [hfx] at h4
        have h5 := h4.valI ((six_of hx6).2 _ (List.getElem_mem _))
        rw [List.getElem?_map, List.getElem?_eq_getElem (by rw [(six_of hx6).1]; exact hjl)] at hj
        rw [h5, ← Option.some.inj hj]
  obtain ⟨hvnb, vcur, tv, hvh⟩ := hinv.new vb voff hS
  have hal := hk.1
  have hlim : G.lim id = 0 := by have := hk.2.2.1; simpa using this
  have hvg : ∀ g, G.own id g → vb ≠ g := fun g hg e => by
    have := (hinv.sRow true vb voff id hS hal (by rw [e]; exact hg)).2
    omega
  have hvlt : vb < w.heap.size := heap_lt hvh
  generalize hvsd : x.cells.map valI = vs at hcv
  have hvl : vs.length = 6 := by rw [← hvsd, List.length_map]; exact (six_of hx6).1
  have h1v : ∀ v ∈ vs, v.oneCell' = true := fun v hv => by
    rw [← hvsd] at hv
    obtain ⟨y, hy, rfl⟩ := List.mem_map.1 hv
    exact valI_one ((six_of hx6).2 y hy)
  generalize hcsd : (flat xs).map valI = cs
  have hcl : cs.length = xs.length * 6 := by rw [← hcsd, List.length_map]; exact (flat_six hxs6).1
  have h1c : ∀ v ∈ cs, v.oneCell' = true := fun v hv => by
    rw [← hcsd] at hv
    obtain ⟨y, hy, rfl⟩ := List.mem_map.1 hv
    exact valI_one ((flat_six hxs6).2 y hy)
  generalize hysd : xs.take m ++ x :: xs.drop m = ys
  have hyl : ys.length = xs.length + 1 := by rw [← hysd]; simp; omega
  have hy6 : ys.all six = true := by
    rw [← hysd]
    refine List.all_eq_true.2 fun y hy => ?_
    rcases List.mem_append.1 hy with hy | hy
    · exact List.all_eq_true.1 hxs6 y (List.mem_of_mem_take hy)
    · rcases List.mem_cons.1 hy with rfl | hy
      · exact hx6
      · exact List.all_eq_true.1 hxs6 y (List.mem_of_mem_drop hy)
  have hyf : (flat ys).map valI = cs.take (m * 6) ++ vs ++ cs.drop (m * 6) := by
    obtain ⟨e1, e2⟩ := flat_split hxs6 hmn
    rw [← hysd, flat_append, flat_cons, e1, e2, ← hcsd, ← hvsd]
    simp [List.map_take, List.map_drop]
  have hfin : ∀ (w' : World) (q off cap : Nat) (cur' : Array Value), w'.heap[q]? = some (.cells cur' 34 (0, 0)) → (∀ b, b < w.heap.size → b ≠ q → w'.heap[b]? = w.heap[b]?) → (G.own id q ∨ w.heap.size ≤ q) → w.heap.size ≤ w'.heap.size →
      w'.os = w.os → w'.tape = w.tape → w'.output = w.output → xs.length + 1 ≤ cap → cap ≤ maxLen → off + cap * 6 ≤ cur'.size → (∀ j, j < (xs.length + 1) * 6 → cur'.getD (off + j) undef = (cs.take (m * 6) ++ vs ++ cs.drop (m * 6)).getD j undef) →
      ∃ v G', Value.slice (some ⟨q, off, none⟩) (xs.length + 1) cap = v ∧ Step false w w' G G' (fun b => X0 b ∨ w.heap.size ≤ b) ∧ Inv w' G' (fun b => X0 b ∨ w.heap.size ≤ b) ∧ RV w' G' (.own id false 34 6 ys) v ∧
        (∀ i, i < ([] : List (List AV)).length → G'.μ i = G.μ i) ∧ (mutSlots 0 [Mode.give, .ro, .ro] = [] → ([] : List (List AV)).length ≤ ([] : List (List AV)).length ∧ ∀ i (h : i < ([] : List (List AV)).length), BoxOK w' G' i ([] : List (List AV))[i]) ∧
        (mutSlots 0 [Mode.give, .ro, .ro] ≠ [] → ([] : List (List AV)) = [] ∧ ([] : List (List AV)).length = (mutSlots 0 [Mode.give, .ro, .ro]).length ∧ ∀ i (h : i < ([] : List (List AV)).length), ∃ x, ([] : List (List AV))[i] = [x] ∧ RV w' G' x ((#[cv, .int .i64 (m : Nat), .slice (some ⟨vb, voff, none⟩) 1 c'] : Array Value).getD ((mutSlots 0 [Mode.give, .ro, .ro]).getD i 0) undef)) := by
    intro w' q off cap cur' g1 g2 g3 g4 g5 g6 g7 g8 g9 g10 g11
    have hXq : (X0 q ∨ w.heap.size ≤ q) ∧ G.nb ≤ q := by
      rcases g3 with g3 | g3
      · have := hinv.row id q hal g3; exact ⟨this.1, this.2.2⟩
      · exact ⟨.inr g3, Nat.le_trans hinv.nb g3⟩
    obtain ⟨G', k1, k2, k3, k4⟩ := row_moved hinv (ys := ys) (cap := cap) (off := off) hk g1 g2 g3 hXq.1 hXq.2 g4 g5 g6 g7 (by rw [hyl]; exact g8) g9 g10 hy6 (fun j hj => by
      have hj6 : j < (xs.length + 1) * 6 := by rw [(flat_six hy6).1, hyl] at hj; exact hj
      rw [g11 j hj6, ← hyf, List.getD_eq_getElem?_getD, List.getElem?_map, List.getElem?_eq_getElem hj]
      rfl)
    rw [hyl] at k3
    exact ⟨_, G', rfl, k1, k2, k3, fun i hi => by simp at hi, fun _ => ⟨Nat.le_refl _, fun i hi => by simp at hi⟩, fun h => by simp [mutSlots] at h⟩
  have hfin' : ∀ {e0 : Ending} (w' : World) (q off cap : Nat) (cur' : Array Value), e0 = .returned (.slice (some ⟨q, off, none⟩) (xs.length + 1) cap) → w'.heap[q]? = some (.cells cur' 34 (0, 0)) → (∀ b, b < w.heap.size → b ≠ q → w'.heap[b]? = w.heap[b]?) → (G.own id q ∨ w.heap.size ≤ q) → w.heap.size ≤ w'.heap.size →
      w'.os = w.os → w'.tape = w.tape → w'.output = w.output → xs.length + 1 ≤ cap → cap ≤ maxLen → off + cap * 6 ≤ cur'.size → (∀ j, j < (xs.length + 1) * 6 → cur'.getD (off + j) undef = (cs.take (m * 6) ++ vs ++ cs.drop (m * 6)).getD j undef) →
      ∃ v G', e0 = .returned v ∧ Step false w w' G G' (fun b => X0 b ∨ w.heap.size ≤ b) ∧ Inv w' G' (fun b => X0 b ∨ w.heap.size ≤ b) ∧ RV w' G' (.own id false 34 6 ys) v ∧
        (∀ i, i < ([] : List (List AV)).length → G'.μ i = G.μ i) ∧ (mutSlots 0 [Mode.give, .ro, .ro] = [] → ([] : List (List AV)).length ≤ ([] : List (List AV)).length ∧ ∀ i (h : i < ([] : List (List AV)).length), BoxOK w' G' i ([] : List (List AV))[i]) ∧
        (mutSlots 0 [Mode.give, .ro, .ro] ≠ [] → ([] : List (List AV)) = [] ∧ ([] : List (List AV)).length = (mutSlots 0 [Mode.give, .ro, .ro]).length ∧ ∀ i (h : i < ([] : List (List AV)).length), ∃ x, ([] : List (List AV))[i] = [x] ∧ RV w' G' x ((#[cv, .int .i64 (m : Nat), .slice (some ⟨vb, voff, none⟩) 1 c'] : Array Value).getD ((mutSlots 0 [Mode.give, .ro, .ro]).getD i 0) undef)) := by
    intro e0 w' q off cap cur' he g1 g2 g3 g4 g5 g6 g7 g8 g9 g10 g11
    obtain ⟨v, G', rfl, k⟩ := hfin w' q off cap cur' g1 g2 g3 g4 g5 g6 g7 g8 g9 g10 g11
    exact ⟨_, G', he, k⟩
  -- a new row: what was ahead, the value, what was behind, spare cells
  have hnew : ∀ (c : Nat), c < xs.length + 1 → xs.length + 1 ≤ grownCap w (xs.length + 1) c 34 ∧ grownCap w (xs.length + 1) c 34 ≤ maxLen := fun c hc => ⟨grownCap_ge w _ _ _, grownCap_le_maxLen w _ c 34 (by unfold maxLen; omega)⟩
  have hend : ∀ (base : Option Addr) (c : Nat), cv = .slice base xs.length c → m = xs.length → xs.length ≤ c → c < xs.length + 1 → (base = none → xs.length = 0) → (∀ a, base = some a → ∀ j v, cs[j]? = some v → w.cell? (a.add j) = some v) →
      Calls Go.Proofs.Try.prog 24 #[cv, .int .i64 (m : Nat), .slice (some ⟨vb, voff, none⟩) 1 c'] w fun e0 w' => ∃ v G', e0 = .returned v ∧ Step false w w' G G' (fun b => X0 b ∨ w.heap.size ≤ b) ∧ Inv w' G' (fun b => X0 b ∨ w.heap.size ≤ b) ∧ RV w' G' (.own id false 34 6 ys) v ∧
        (∀ i, i < ([] : List (List AV)).length → G'.μ i = G.μ i) ∧ (mutSlots 0 [Mode.give, .ro, .ro] = [] → ([] : List (List AV)).length ≤ ([] : List (List AV)).length ∧ ∀ i (h : i < ([] : List (List AV)).length), BoxOK w' G' i ([] : List (List AV))[i]) ∧
        (mutSlots 0 [Mode.give, .ro, .ro] ≠ [] → ([] : List (List AV)) = [] ∧ ([] : List (List AV)).length = (mutSlots 0 [Mode.give, .ro, .ro]).length ∧ ∀ i (h : i < ([] : List (List AV)).length), ∃ x, ([] : List (List AV))[i] = [x] ∧ RV w' G' x ((#[cv, .int .i64 (m : Nat), .slice (some ⟨vb, voff, none⟩) 1 c'] : Array Value).getD ((mutSlots 0 [Mode.give, .ro, .ro]).getD i 0) undef)) := by
    intro base c hcv0 hm hnc hroom hb0 hb1
    subst hm
    have hcall := ins_end_grow base xs.length c vb voff c' cs vs w hnc hroom (by omega) hcl hvl hb0 hb1 hcv h1v
    rw [← hcv0] at hcall
    refine hcall.mono ?_
    rintro e0 w' ⟨he, rfl⟩
    obtain ⟨n1, n2⟩ := hnew c hroom
    generalize grownCap w (xs.length + 1) c 34 = Gc at *
    refine hfin' _ w.heap.size 0 Gc _ he (heap_alloc_new w.drew _) (fun b hb _ => heap_alloc_eq (w := w.drew) hb) (.inr (Nat.le_refl _)) (by show w.heap.size ≤ (w.heap.push _).size; simp) rfl rfl rfl n1 n2 ?_ (fun j hj => ?_)
    · simp [Builtin.zeroCells, Value.cells]
      omega
    · have e1 : cs.take (xs.length * 6) = cs := by rw [← hcl, List.take_length]
      have e2 : cs.drop (xs.length * 6) = [] := by rw [← hcl, List.drop_length]
      rw [e1, e2, List.append_nil, Nat.zero_add, Array.getD_eq_getD_getElem?, Array.getElem?_append_left (by simp; omega), List.getElem?_toArray, ← List.getD_eq_getElem?_getD]
  rcases hk.2.2.2.cases with ⟨hnil, hv⟩ | ⟨g, off, cap, cur, Fs, hv, hat⟩
  · have hx0 : xs.length = 0 := by rw [hnil]; rfl
    exact hend none 0 (by rw [← hρ, hv, hx0]) (by omega) (by omega) (by omega) (fun _ => hx0) (fun a ha => by simp at ha)
  · have hcv2 : cv = .slice (some ⟨g, off, none⟩) xs.length cap := by rw [← hρ, hv]
    have hle := hat.le
    have hmax := hat.max
    have hsize := hat.size
    have hgl : g < w.heap.size := (hinv.row id g hal hat.own).2.1
    have hcval : ∀ j, j < xs.length * 6 → cur.getD (off + j) undef = cs.getD j undef := fun j hj => by
      have hj' : j < (flat xs).length := by rw [(flat_six hxs6).1]; exact hj
      have h5 := (hat.rel j hj').valI ((flat_six hxs6).2 _ (List.getElem_mem _))
      rw [h5, ← hcsd, List.getD_eq_getElem?_getD, List.getElem?_map, List.getElem?_eq_getElem hj']
      rfl
    have hcs : ∀ j v, cs[j]? = some v → w.cell? ⟨g, off + j, none⟩ = some v := fun j v hj => by
      have hjl : j < xs.length * 6 := by rw [← hcl]; exact (List.getElem?_eq_some_iff.1 hj).1
      rw [hat.cellAt hjl, hcval j hjl, List.getD_eq_getElem?_getD, hj]
      rfl
    have hcell : ∀ j, j < cap * 6 → (w.cell? ⟨g, off + j, none⟩).isSome = true := fun j hj => by
      simp -implicitDefEqProofs only [World.cell?, hat.heap]
      rw [Array.getElem?_eq_getElem (by omega)]
      rfl
    have hfz : ∀ j, w.frozen? ⟨g, j, none⟩ = false := fun j => by simp [World.frozen?, hat.heap]
    by_cases hroom : xs.length + 1 ≤ cap
    · by_cases hme : m = xs.length
      · -- at the end, in place
        rw [hcv2]
        rw [hcv2] at hfin'
        have hcall := ins_end_room g off xs.length cap vb voff c' vs w hroom (by unfold maxLen at hmax; omega) hvl (fun j hj => by rw [Nat.add_assoc]; exact hcell _ (by omega)) (fun j _ => hfz _) hcv h1v
        rw [hme]
        rw [hme] at hfin'
        refine hcall.mono ?_
        rintro e0 w' ⟨he, rfl⟩
        obtain ⟨cur', a1, a2, a3, a4, a5, a6, a7, a8⟩ := setCells_heap g 34 vs (off + xs.length * 6) cur w hat.heap (by omega)
        refine hfin' _ g off cap cur' he a1 (fun b _ hb => a4 b hb) (.inl hat.own) (Nat.le_of_eq a5.symm) a6 a7 a8 hroom hmax (by rw [a2]; exact hsize) (fun j hj => ?_)
        have e1 : cs.take (xs.length * 6) = cs := by rw [← hcl, List.take_length]
        rw [a3, e1, getD_mid hcl hvl]
        by_cases hj1 : j < xs.length * 6
        · rw [if_neg (by omega), if_pos hj1]; exact hcval j hj1
        · rw [if_pos (by omega), if_neg hj1, if_pos (by omega)]; congr 1; omega
      · -- in place
        have hml : m < xs.length := by omega
        have htl : (cs.take (m * 6)).length = m * 6 := by rw [List.length_take]; omega
        have hdl : (cs.drop (m * 6)).length = (xs.length - m) * 6 := by rw [List.length_drop, hcl]; omega
        rw [hcv2]
        rw [hcv2] at hfin'
        have hcall := ins_shift g off xs.length cap m vb voff c' cs vs w hml hroom (by unfold maxLen at hmax; omega) (hvg g hat.own) hcl hvl hcs (fun j hj => hcell j (by omega)) (fun j _ => hfz _) hcv h1c h1v
          tv 34 vcur.size cur.size (by simp [World.shape?, hvh]) (by simp [World.shape?, hat.heap]) (by omega) (by simp [World.frozen?, hvh]) (by simp [World.frozen?, hvh])
        refine hcall.mono ?_
        rintro e0 w' ⟨he, rfl⟩
        obtain ⟨cur1, a1, a2, a3, a4, a5, a6, a7, a8⟩ := setCells_heap g 34 (cs.drop (m * 6)) (off + (m + 1) * 6) cur w.drew hat.heap (by rw [hdl]; omega)
        obtain ⟨cur2, b1, b2, b3, b4, b5, b6, b7, b8⟩ := setCells_heap g 34 vs (off + m * 6) cur1 _ a1 (by omega)
        refine hfin' _ g off cap cur2 he b1 (fun b _ hb => (b4 b hb).trans (a4 b hb)) (.inl hat.own) (Nat.le_of_eq (b5.trans a5).symm) (b6.trans a6) (b7.trans a7) (b8.trans a8) hroom hmax (by rw [b2, a2]; exact hsize) (fun j hj => ?_)
        rw [b3, a3, getD_mid htl hvl, hvl, hdl]
        by_cases hj1 : j < m * 6
        · rw [if_neg (by omega), if_neg (by omega), if_pos hj1, hcval j (by omega)]
          simp -implicitDefEqProofs only [List.getD_eq_getElem?_getD, List.getElem?_take, if_pos hj1]
        · by_cases hj2 : j < m * 6 + 6
          · rw [if_pos (by omega), if_neg hj1, if_pos hj2]; congr 1; omega
          · rw [if_neg (by omega), if_pos (by omega), if_neg hj1, if_neg hj2]; congr 1; omega
    · by_cases hme : m = xs.length
      · exact hend (some ⟨g, off, none⟩) cap hcv2 hme hle (by omega) (fun h => by simp at h) (fun a ha j v hj => by
          obtain rfl := Option.some.inj ha
          rw [add_eq rfl]
          exact hcs j v hj)
      · -- a new row
        have hml : m < xs.length := by omega
        have htl : (cs.take (m * 6)).length = m * 6 := by rw [List.length_take]; omega
        have hdl : (cs.drop (m * 6)).length = (xs.length - m) * 6 := by rw [List.length_drop, hcl]; omega
        rw [hcv2]
        rw [hcv2] at hfin'
        have hcall := ins_grow g off xs.length cap m vb voff c' cs vs w hml hle (by omega) (by omega) hcl hvl hcs hcv h1c h1v
        refine hcall.mono ?_
        rintro e0 w' ⟨he, rfl⟩
        obtain ⟨n1, n2⟩ := hnew cap (by omega)
        generalize grownCap w (xs.length + 1) cap 34 = Gc at *
        generalize hROW : (cs.take (m * 6)).toArray ++ Builtin.zeroCells zFact.cells (xs.length + 1 - m) ++ Builtin.zeroCells zFact.cells (Gc - (xs.length + 1)) = ROW
        have hRs : ROW.size = Gc * 6 := by
          rw [← hROW]
          simp [Builtin.zeroCells, Value.cells]
          omega
        have hRv : ∀ j, j < m * 6 → ROW.getD j undef = (cs.take (m * 6)).getD j undef := fun j hj => by
          have hA : (cs.take (m * 6)).toArray.size = m * 6 := by rw [List.size_toArray]; exact htl
          rw [← hROW, Array.getD_eq_getD_getElem?, Array.getElem?_append_left (by rw [Array.size_append, hA]; omega), Array.getElem?_append_left (by rw [hA]; exact hj), List.getElem?_toArray, ← List.getD_eq_getElem?_getD]
        obtain ⟨cur1, a1, a2, a3, a4, a5, a6, a7, a8⟩ := setCells_heap w.heap.size 34 vs (m * 6) ROW (w.alloc (.cells ROW 34)).drew (heap_alloc_new w _) (by rw [hRs]; omega)
        obtain ⟨cur2, b1, b2, b3, b4, b5, b6, b7, b8⟩ := setCells_heap w.heap.size 34 (cs.drop (m * 6)) ((m + 1) * 6) cur1 ((w.alloc (.cells ROW 34)).drew.setCells w.heap.size (m * 6) vs).drew a1 (by rw [hdl, a2, hRs]; omega)
        have hsz1 : (w.alloc (.cells ROW 34)).heap.size = w.heap.size + 1 := by
          show (w.heap.push _).size = _
          exact Array.size_push _
        refine hfin' _ w.heap.size 0 Gc cur2 he b1 (fun b hb hb2 => (b4 b hb2).trans ((a4 b hb2).trans (heap_alloc_eq hb))) (.inr (Nat.le_refl _)) ?_ (b6.trans a6) (b7.trans a7) (b8.trans a8) n1 n2 (by rw [b2, a2, hRs]; omega) (fun j hj => ?_)
        · have h5 : (((w.alloc (.cells ROW 34)).drew.setCells w.heap.size (m * 6) vs).drew).heap.size = (w.alloc (.cells ROW 34)).heap.size := a5
          rw [b5, h5, hsz1]
          omega
        · rw [Nat.zero_add, b3, a3, getD_mid htl hvl, hvl, hdl]
          by_cases hj1 : j < m * 6
          · rw [if_neg (by omega), if_neg (by omega), if_pos hj1, hRv j hj1]
          · by_cases hj2 : j < m * 6 + 6
            · rw [if_neg (by omega), if_pos (by omega), if_neg hj1, if_pos hj2]
            · rw [if_pos (by omega), if_neg hj1, if_neg hj2]; congr 1; omega
end Go.Proofs.Ytggkeechdakccaa.Flat
