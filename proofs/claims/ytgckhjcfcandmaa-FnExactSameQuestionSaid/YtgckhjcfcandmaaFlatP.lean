/-
Row literals, make, elements written.
-/
import Derived.Test.YtgckhjcfcandmaaFlatO
set_option linter.unusedVariables false
set_option linter.unusedSimpArgs false
namespace Go.Proofs.Ytgckhjcfcandmaa.Flat
section
variable {P : Program} {st st' : St} {a : Act} {w : World} {G : Gh} {X F : Nat → Prop} {nid : Nat} {o : Oper}

/-! ### make -/
theorem run_make_row (t e : TypeId) (i : TypeInfo) (z : Value) (ht : P.underlying t = some (.slice e)) (hi : P.info? e = some i) (hz : i.zero = some z) (kl kc : IntKind) (n : Nat) (hb : i.bytes * n ≤ 281474976710656) (h63 : n ≤ maxLen) (w : World) :
    (Instr.makeSlice t (.int kl (n : Int)) (.int kc (n : Int))).run P w = .ok (.slice (some ⟨w.heap.size, 0, none⟩) n n) (w.alloc (.cells (madeCells z.cells (n * i.size)) e)) := by
  have h63' : (n : Int) ≤ 9223372036854775807 := by
    have h := h63
    simp [maxLen] at h
    omega
  have hb' : (i.bytes : Int) * (n : Int) ≤ 281474976710656 := by
    have h : ((i.bytes * n : Nat) : Int) ≤ 281474976710656 := by omega
    rwa [Int.natCast_mul] at h
  have hr := run_make (P := P) w t e i z ht hi hz kl kc n n (by omega) (Int.le_refl _) hb' h63'
  simpa only [Int.toNat_natCast] using hr

theorem AV.seal_cells (x : AV) : x.shutV.cells = x.cells.map AV.shutV ∨ ∃ y, x.cells = [x] ∧ x.shutV = y ∧ x.shutV.cells = [y] := by
  cases x <;> first
    | (left; simp only [AV.shutV, AV.mapO, AV.cells, AV.mapOs_eq]; rfl)
    | exact .inr ⟨_, rfl, rfl, rfl⟩
theorem flat_replicate (n : Nat) (x : AV) : ∀ j, j < n * x.cells.length → 0 < x.cells.length → (flat (List.replicate n x))[j]? = x.cells[j % x.cells.length]? := by
  induction n with
  | zero => intro j hj; simp at hj
  | succ n ih =>
    intro j hj h0
    rw [List.replicate_succ, flat_cons]
    by_cases hlt : j < x.cells.length
    · rw [List.getElem?_append_left hlt, Nat.mod_eq_of_lt hlt]
    · rw [Nat.add_mul, Nat.one_mul] at hj
      have e := Nat.mod_eq_sub_mod (show x.cells.length ≤ j by omega)
      rw [List.getElem?_append_right (by omega), ih _ (by omega) h0, e]
theorem ofCell_seal {v : Value} {a : AV} {S : Cells} (h : ofCell v = some a) : RO w S a.shutV v ∧ a.shutV.isCell = true := by
  unfold ofCell at h
  split at h
  · obtain rfl := Option.some.inj h; exact ⟨.int _ _ _, rfl⟩
  · obtain rfl := Option.some.inj h; exact ⟨.bool _ _, rfl⟩
  · obtain rfl := Option.some.inj h; exact ⟨.str _ _, rfl⟩
  · obtain rfl := Option.some.inj h; exact ⟨.slNil _ _ _ _ (fun _ => rfl), rfl⟩
  · simp at h
theorem ofCells_seal {S : Cells} : ∀ {vs : List Value} {cs : List AV}, ofCells vs = some cs → cs.length = vs.length ∧ (∀ y ∈ cs, y.shutV.isCell = true) ∧ ∀ j (h : j < cs.length), RO w S cs[j].shutV (vs.getD j undef)
  | [], cs, h => by
    obtain rfl : [] = cs := by simpa [ofCells] using h
    exact ⟨rfl, by simp, fun j hj => by simp at hj⟩
  | v :: vs, cs, h => by
    simp only [ofCells] at h
    obtain ⟨a, ha, h⟩ := Option.bind_eq_some_iff.1 h
    obtain ⟨r, hr, rfl⟩ := Option.map_eq_some_iff.1 h
    obtain ⟨h1, h2, h3⟩ := ofCells_seal hr
    obtain ⟨h4, h5⟩ := ofCell_seal ha
    refine ⟨by simp [h1], fun y hy => ?_, fun j hj => ?_⟩
    · rcases List.mem_cons.1 hy with rfl | hy
      · exact h5
      · exact h2 y hy
    · cases j with
      | zero => exact h4
      | succ j => simpa using h3 j (by simpa using hj)
/-- The element that make lays everywhere. -/
theorem zeroElem_ok {te : TI} {x : AV} {S : Cells} (h : zeroElem te = some x) (h0 : 0 < te.size) : ∃ z, te.zero = some z ∧ x.cells.length = te.size ∧ z.cells.size = te.size ∧ (∀ y ∈ x.cells, y.isCell = true) ∧
    ∀ j (h : j < x.cells.length), RO w S x.cells[j] (z.cells.getD j undef) := by
  unfold zeroElem at h
  obtain ⟨z, hz, h⟩ := Option.bind_eq_some_iff.1 h
  obtain ⟨cs, hcs, h⟩ := Option.bind_eq_some_iff.1 h
  obtain ⟨h1, h2, h3⟩ := ofCells_seal (w := w) (S := S) hcs
  have hg : ∀ j, z.cells.toList.getD j undef = z.cells.getD j undef := fun j => by rw [List.getD_eq_getElem?_getD, Array.getElem?_toList, ← Array.getD_eq_getD_getElem?]
  split at h
  · rename_i hl
    have hzs : z.cells.size = te.size := by rw [← hl, h1]; simp
    split at h
    · obtain rfl := Option.some.inj h
      have hc : (AV.shutV (.agg cs)).cells = cs.map AV.shutV := by simp only [AV.shutV, AV.mapO, AV.cells, AV.mapOs_eq]; rfl
      refine ⟨z, hz, by rw [hc]; simpa using hl, hzs, fun y hy => ?_, fun j hj => ?_⟩
      · rw [hc] at hy
        obtain ⟨y0, hy0, rfl⟩ := List.mem_map.1 hy
        exact h2 y0 hy0
      · have hj' : j < cs.length := by rw [hc] at hj; simpa using hj
        have e : (AV.shutV (.agg cs)).cells[j] = cs[j].shutV := by simp [hc]
        rw [e, ← hg]
        exact h3 j hj'
    · split at h
      · rename_i c
        obtain rfl := Option.some.inj h
        have h4 := h2 c (by simp)
        have hc : c.shutV.cells = [c.shutV] := by
          cases hh : c.shutV <;> first | rfl | (rw [hh] at h4; simp [AV.isCell] at h4)
        refine ⟨z, hz, by rw [hc]; simpa using hl, hzs, fun y hy => ?_, fun j hj => ?_⟩
        · rw [hc] at hy; obtain rfl := List.mem_singleton.1 hy; exact h4
        · have hj0 : j = 0 := by rw [hc] at hj; simpa using hj
          subst hj0
          have e : c.shutV.cells[0] = c.shutV := by simp [hc]
          rw [e, ← hg]
          exact h3 0 (by simp)
      · simp at h
  · simp at h

theorem evMakeSlice_ok {t : Nat} {l c : Operand} (h : Rel st a w G X F) (hX : ∀ b, w.heap.size ≤ b → X b) (hF : F nid) (hop : o.op = .makeSlice t l c) (he : evMakeSlice P t (st.val l) (st.val c) nid o.dst st = some st') :
    Done false P o a w G X (fun i => F i ∧ i ≠ nid) st' := by
  unfold evMakeSlice at he
  split at he
  · rename_i hst
    obtain ⟨ti, hti, he⟩ := Option.bind_eq_some_iff.1 he
    obtain ⟨te, hte, he⟩ := Option.bind_eq_some_iff.1 he
    obtain ⟨x, hx, he⟩ := Option.bind_eq_some_iff.1 he
    have hu := tagOf_slice (of_decide_eq_true hst) hti
    have h1 := h.sees.val l
    have h2 := h.sees.val c
    cases hl : st.val l with
    | int kl n =>
      cases hc : st.val c with
      | int kc m =>
        rw [hl, hc] at he
        rw [hl] at h1
        rw [hc] at h2
        simp only at he
        split at he
        · rename_i hcond
          obtain ⟨rfl, hn0, hb, h63, hsz0⟩ := hcond
          obtain ⟨n, rfl⟩ := Int.eq_ofNat_of_zero_le hn0
          simp only [Int.toNat_natCast] at hb h63 he
          obtain ⟨z, hz, hxl, hzs, hxc, hxr⟩ := zeroElem_ok (w := w) (S := G.S) hx hsz0
          obtain ⟨ie, de, hie, hde, rfl⟩ := tiOf_some hte
          simp only at hz hb hsz0 hxl hzs he
          have hm : n ≤ maxLen := by simp only [maxLen]; omega
          have hrun := run_make_row t ti.elem ie z hu hie hz kl kc n hb hm w
          have hown : (w.alloc (.cells (madeCells z.cells (n * ie.size)) ti.elem)).ownsRow 0 ti.elem ie.size (.slice (some ⟨w.heap.size, 0, none⟩) n n) n (madeCells z.cells (n * ie.size)).toList :=
            World.ownsRow_lit w _ n (Nat.zero_le _) hm (size_madeCells _ _)
          have hsz : ∀ y ∈ List.replicate n x, y.cells.length = ie.size := fun y hy => by rw [List.eq_of_mem_replicate hy]; exact hxl
          have hfl : (flat (List.replicate n x)).length = n * ie.size := by rw [flat_length hsz]; simp
          obtain ⟨hr1, hs1, hx1⟩ := h.newRow (w' := w.alloc (.cells (madeCells z.cells (n * ie.size)) ti.elem)) (nid := nid) (dead := []) (v := .slice (some ⟨w.heap.size, 0, none⟩) n n) (L := 0) (fz := false) (e := ti.elem) (sz := ie.size) (xs := List.replicate n x) hX hF (by simp) rfl rfl rfl (by simp only [World.alloc, Array.size_push]; omega)
            (fun k hk _ => heap_alloc_eq hk) (fun fl b o hs => cell_alloc (h.inv.lt fl b o hs)) (by simp) (fun g hg => by
              obtain rfl : w.heap.size = g := by simpa [Value.ownBlock] using hg
              exact .inl ⟨Nat.le_refl _, by simp only [World.alloc, Array.size_push]; omega⟩) (by simp) hsz (fun y hy => by
              simp only [flat, List.mem_flatMap] at hy
              obtain ⟨x', hx', hy⟩ := hy
              rw [List.eq_of_mem_replicate hx'] at hy
              exact hxc y hy) (inner := (madeCells z.cells (n * ie.size)).toList) (by rw [List.length_replicate]; exact hown) (fun j hj => by
              have hj' : j < n * ie.size := by rw [← hfl]; exact hj
              have hmod : j % ie.size < ie.size := Nat.mod_lt _ hsz0
              have e1 := flat_replicate n x j (by rw [hxl]; exact hj') (by omega)
              rw [List.getElem?_eq_getElem hj, hxl, List.getElem?_eq_getElem (by omega)] at e1
              rw [Option.some.inj e1]
              have e2 : (madeCells z.cells (n * ie.size)).toList.getD j undef = z.cells.getD (j % ie.size) undef := by
                rw [List.getD_eq_getElem?_getD, Array.getElem?_toList]
                unfold madeCells
                rw [Array.getElem?_map, Array.getElem?_range, if_pos hj']
                simp only [Option.map_some, Option.getD_some, hzs]
                rw [getElem!_pos z.cells _ (by omega)]
                have := getD_some (xs := z.cells) (i := j % ie.size) (by omega)
                rw [Array.getElem?_eq_getElem (by omega)] at this
                exact Option.some.inj this
              rw [e2]
              exact hxr _ _)
          have he2 : (st.scrub []).put o.dst (.own nid false ti.elem ie.size (List.replicate n x)) = some st' := he
          refine done_value hs1 hr1 hx1 ?_ he2
          simp only [execOp, hop, h1.int_inv, h2.int_inv, Sem.run_bind, hrun, Result.andThen_ok]
          rfl
        · simp at he
      | _ => simp [hl, hc] at he
    | _ => simp [hl] at he
  · simp at he
end
end Go.Proofs.Ytgckhjcfcandmaa.Flat
