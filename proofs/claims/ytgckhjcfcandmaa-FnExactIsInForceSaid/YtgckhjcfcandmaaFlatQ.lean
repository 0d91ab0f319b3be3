/-
Row literals, and elements written.
-/
import Derived.Test.YtgckhjcfcandmaaFlatP
set_option linter.unusedVariables false
set_option linter.unusedSimpArgs false
namespace Go.Proofs.Ytgckhjcfcandmaa.Flat
/-- Cells that stand for cells, whatever that means. -/
def Rs (R : AV → Value → Prop) (cs : List AV) (vs : Array Value) : Prop := vs.size = cs.length ∧ ∀ j (h : j < cs.length), R cs[j] (vs.getD j undef)
theorem Rs.put {R : AV → Value → Prop} {cs : List AV} {vs : Array Value} {xs : List AV} {us : Array Value} {off : Nat} (h : Rs R cs vs) (hx : Rs R xs us) (hb : off + xs.length ≤ cs.length) :
    Rs R (cs.take off ++ xs ++ cs.drop (off + xs.length)) (us.zipIdx.foldl (fun cs (p : Value × Nat) => cs.setIfInBounds (off + p.2) p.1) vs) := by
  rw [← Array.foldl_toList, Array.toList_zipIdx]
  have hl : off + 0 + us.toList.length ≤ vs.size := by simp [hx.1, h.1]; omega
  refine ⟨?_, fun j hj => ?_⟩
  · rw [put_size, h.1]; simp; omega
  · rw [put_get off _ 0 vs j hl]
    simp only [Nat.add_zero, Array.length_toList, hx.1]
    by_cases h1 : j < off
    · rw [if_neg (by omega), List.getElem_append_left (by simp; omega), List.getElem_append_left (by simp; omega), List.getElem_take]
      exact h.2 _ _
    · by_cases h2 : j < off + xs.length
      · rw [if_pos (by omega), List.getElem_append_left (by simp; omega), List.getElem_append_right (by simp; omega)]
        have := hx.2 (j - off) (by omega)
        rw [Array.getD_eq_getD_getElem?] at this
        rw [List.getD_eq_getElem?_getD, Array.getElem?_toList]
        have e : j - (List.take off cs).length = j - off := by simp; omega
        simp only [e]
        exact this
      · rw [if_neg (by omega), List.getElem_append_right (by simp; omega)]
        have e : j = off + xs.length + (j - (List.take off cs ++ xs).length) := by simp; omega
        have := h.2 j (by simp at hj; omega)
        simp only [List.getElem_drop]
        have e2 : cs[off + xs.length + (j - (List.take off cs ++ xs).length)]'(by simp at hj ⊢; omega) = cs[j]'(by simp at hj; omega) := by congr 1; exact e.symm
        rw [e2]
        exact this
theorem fillR_ok {R : AV → Value → Prop} {place : Nat → Option (Nat × Nat)} : ∀ {parts : List (Nat × AV)} {parts' : List (Nat × Value)} {cs cs' : List AV} {vs : Array Value},
    Rs R cs vs → parts.length = parts'.length → (∀ (k i : Nat) (x : AV) (i' : Nat) (v : Value), parts[k]? = some (i, x) → parts'[k]? = some (i', v) → i = i' ∧ Rs R x.cells v.cells) → fillCells place cs parts = some cs' →
    ∃ vs', Instr.fill place vs parts' = some vs' ∧ Rs R cs' vs'
  | [], parts', cs, cs', vs, h, hl, _, hf => by
    obtain rfl : parts' = [] := by cases parts' <;> simp_all
    obtain rfl : cs = cs' := by simpa [fillCells] using hf
    exact ⟨vs, rfl, h⟩
  | (i, x) :: parts, parts', cs, cs', vs, h, hl, hr, hf => by
    cases parts' with
    | nil => simp at hl
    | cons p parts' =>
      obtain ⟨i', v⟩ := p
      obtain ⟨rfl, hxv⟩ := hr 0 i x i' v rfl rfl
      simp only [fillCells] at hf
      obtain ⟨⟨off, size⟩, hpl, hf⟩ := Option.bind_eq_some_iff.1 hf
      simp only at hf
      split at hf
      · rename_i hc
        obtain ⟨hc1, hc2, hc3⟩ := hc
        have hput := h.put (off := off) hxv (by omega)
        rw [hc1] at hput
        obtain ⟨vs', h1, h2⟩ := fillR_ok hput (by simpa using hl) (fun k i x i' v h1 h2 => hr (k + 1) i x i' v (by simpa using h1) (by simpa using h2)) hf
        refine ⟨vs', ?_, h2⟩
        rw [Instr.fill.eq_2, hpl]
        simp only
        rw [if_neg (by simp [hxv.1, hc1, h.1]; omega)]
        exact h1
      · simp at hf
theorem fillCells_seq {size : Nat} (h0 : size ≠ 0) : ∀ (xs : List AV) (k : Nat) (pre : List AV), pre.length = k * size → (∀ x ∈ xs, x.cells.length = size) →
    fillCells (fun i => some (i * size, size)) (pre ++ List.replicate (xs.length * size) .undef) (numbered k xs) = some (pre ++ flat xs)
  | [], k, pre, _, _ => by simp [numbered, fillCells, flat]
  | x :: xs, k, pre, hp, hs => by
    have hx := hs x (by simp)
    have e : (xs.length + 1) * size = size + xs.length * size := by rw [Nat.add_mul]; omega
    simp only [numbered, fillCells, Option.bind_some, List.length_cons]
    rw [if_pos ⟨hx, h0, by simp [hp]; rw [e]; omega⟩]
    have e1 : (pre ++ List.replicate ((xs.length + 1) * size) AV.undef).take (k * size) = pre := by rw [← hp]; exact List.take_left
    have e2 : (pre ++ List.replicate ((xs.length + 1) * size) AV.undef).drop (k * size + size) = List.replicate (xs.length * size) AV.undef := by
      rw [← hp, ← List.drop_drop, List.drop_left, e, List.drop_replicate]
      congr 1
      omega
    rw [e1, e2, fillCells_seq h0 xs (k + 1) (pre ++ x.cells) (by simp [hp, hx, Nat.add_mul]) (fun y hy => hs y (by simp [hy])), flat_cons, List.append_assoc]
theorem elemsOf_ok {agg : Bool} {size : Nat} : ∀ {parts : List (Nat × AV)} {k : Nat} {xs : List AV}, elemsOf agg size k parts = some xs →
    parts.map (fun p => (p.1, p.2.shutV)) = numbered k xs ∧ xs.length = parts.length ∧ (∀ x ∈ xs, x.cells.length = size ∧ x.cells.all AV.isCell = true)
  | [], k, xs, h => by
    obtain rfl : [] = xs := by simpa [elemsOf] using h
    exact ⟨rfl, rfl, by simp⟩
  | (i, x) :: r, k, xs, h => by
    simp only [elemsOf] at h
    split at h
    · rename_i hc
      obtain ⟨rfl, h1, h2, _⟩ := hc
      obtain ⟨ys, hys, rfl⟩ := Option.map_eq_some_iff.1 h
      obtain ⟨h3, h4, h5⟩ := elemsOf_ok hys
      refine ⟨by simp [numbered, h3], by simp [h4], fun y hy => ?_⟩
      rcases List.mem_cons.1 hy with rfl | hy
      · exact ⟨h1, h2⟩
      · exact h5 y hy
    · simp at h
theorem numbered_get {α : Type} (xs : List α) (k j : Nat) : (numbered k xs)[j]? = (xs[j]?).map fun x => (k + j, x) := by
  induction xs generalizing k j with
  | nil => simp [numbered]
  | cons x xs ih =>
    cases j with
    | zero => rfl
    | succ j => simp only [numbered, List.getElem?_cons_succ, ih]; congr 1; funext y; congr 1; omega
theorem numbered_length {α : Type} (xs : List α) (k : Nat) : (numbered k xs).length = xs.length := by
  induction xs generalizing k with
  | nil => rfl
  | cons x xs ih => simp [numbered, ih]
section
variable {P : Program} {st st' : St} {a : Act} {w : World} {G : Gh} {X F : Nat → Prop} {nid : Nat} {o : Oper}

theorem RO.cells {S : Cells} {x : AV} {v : Value} (h : RO w S x v) (hc : x.cells.all AV.isCell = true) : Rs (RO w S) x.cells v.cells ∧ ∀ u ∈ v.cells.toList, u.oneCell' = true := by
  have key : Rs (RO w S) x.cells v.cells := by
    cases x with
    | agg cs => cases h with | agg _ _ vs hl hr => exact ⟨hl, hr⟩
    | undef => simp [AV.cells, AV.isCell] at hc
    | tup cs => simp [AV.cells, AV.isCell] at hc
    | _ =>
      have h1 := h.one rfl
      have e : v.cells = #[v] := by cases v <;> first | rfl | simp [Value.oneCell'] at h1
      rw [e]
      refine ⟨rfl, fun j hj => ?_⟩
      obtain rfl : j = 0 := by simpa [AV.cells] using hj
      exact h
  refine ⟨key, fun u hu => ?_⟩
  obtain ⟨j, hj, rfl⟩ := List.getElem_of_mem hu
  have hj' : j < x.cells.length := by rw [← key.1]; simpa using hj
  have h4 := (key.2 j hj').one (List.all_eq_true.1 hc _ (List.getElem_mem _))
  have hg := getD_some (xs := v.cells) (i := j) (by simpa using hj)
  rw [Array.getElem_toList]
  rw [Array.getElem?_eq_getElem (by simpa using hj)] at hg
  rw [Option.some.inj hg]
  exact h4

theorem run_buildSlice {t e len : Nat} {i : TypeInfo} {z : Value} {parts : Array (Nat × Value)} {R : Array Value → Prop} (ht : P.underlying t = some (.slice e)) (hi : P.info? e = some i) (hz : i.zero = some z) (hl : len * i.size ≤ 16777216)
    (hf : ∀ vs : Array Value, vs.size = len * i.size → ∃ cells, Instr.fill (fun k => some (k * i.size, i.size)) vs parts.toList = some cells ∧ R cells) (w : World) :
    ∃ cells, R cells ∧ (Instr.buildSlice t len parts).run P w = .ok (.slice (some ⟨w.heap.size, 0, none⟩) len len) (w.alloc (.cells cells e)) := by
  have hl' : ¬ (len * i.size > 2 ^ 24) := by omega
  simp only [Instr.buildSlice, Sem.run_bind, run_und ht, Result.andThen_ok, sizeOf, run_info hi, Sem.run_pure, if_neg hl']
  by_cases h0 : len * i.size = 0
  · rw [if_pos h0]
    simp only [Sem.run_bind, Sem.run_pure, Result.andThen_ok]
    obtain ⟨cells, h1, h2⟩ := hf _ (show ((Array.range (len * i.size)).map (fun x => (#[] : Array Value)[x % (#[] : Array Value).size]!)).size = len * i.size by simp)
    refine ⟨cells, h2, ?_⟩
    rw [h1]
    simp only [Sem.run_bind, run_newRow, Result.andThen_ok, Sem.run_pure]
  · rw [if_neg h0]
    simp only [Sem.run_bind, zeroValue, run_info hi, hz, Sem.run_pure, Result.andThen_ok]
    obtain ⟨cells, h1, h2⟩ := hf _ (show ((Array.range (len * i.size)).map (fun x => z.cells[x % z.cells.size]!)).size = len * i.size by simp)
    refine ⟨cells, h2, ?_⟩
    rw [h1]
    simp only [Sem.run_bind, run_newRow, Result.andThen_ok, Sem.run_pure]

theorem evBuildSlice_ok {t len : Nat} {ps : Array (Nat × Operand)} (h : Rel st a w G X F) (hX : ∀ b, w.heap.size ≤ b → X b) (hF : F nid) (hop : o.op = .buildSlice t len ps)
    (he : evBuildSlice P t len (ps.toList.map fun p => (p.1, st.val p.2)) nid o.dst st = some st') : Done false P o a w G X (fun i => F i ∧ i ≠ nid) st' := by
  unfold evBuildSlice at he
  split at he
  · rename_i hst
    obtain ⟨ti, hti, he⟩ := Option.bind_eq_some_iff.1 he
    obtain ⟨te, hte, he⟩ := Option.bind_eq_some_iff.1 he
    obtain ⟨xs, hxs, he⟩ := Option.bind_eq_some_iff.1 he
    split at he
    · rename_i hc
      obtain ⟨hlen, hcap, hpos, hz⟩ := hc
      obtain ⟨z, hz, hzs⟩ := zeroOK_some hz
      have hu := tagOf_slice (of_decide_eq_true hst) hti
      obtain ⟨hnum, hxl, hxc⟩ := elemsOf_ok hxs
      obtain ⟨ie, de, hie, hde, rfl⟩ := tiOf_some hte
      simp only at hz hpos hcap hxc he
      have hids : ∀ id ∈ (ps.toList.map fun p => (p.1, st.val p.2)).flatMap (fun p => p.2.rows), ∃ fz e sz xs, RowOK w G id fz e sz xs := by
        intro id hid
        obtain ⟨p, hp, hm⟩ := List.mem_flatMap.1 hid
        obtain ⟨q, hq, rfl⟩ := List.mem_map.1 hp
        exact (h.sees.val q.2).rows_al id hm
      generalize hidl : (ps.toList.map fun p => (p.1, st.val p.2)).flatMap (fun p => p.2.rows) = ids at hids he
      obtain ⟨hr0, hs0⟩ := h.freeze hids
      -- what the literal holds
      have hlen' : xs.length = len := by rw [hxl, ← hlen]
      have hro : ∀ (k i : Nat) (x : AV) (i' : Nat) (v : Value), (numbered 0 xs)[k]? = some (i, x) → ((ps.map fun p => (p.1, a.eval p.2)).toList)[k]? = some (i', v) → i = i' ∧ Rs (RO w (G.freeze w ids).S) x.cells v.cells := by
        intro k i x i' v h1 h2
        rw [← hnum] at h1
        simp only [List.getElem?_map, Option.map_eq_some_iff, Prod.mk.injEq, Array.getElem?_toList] at h1
        obtain ⟨p0, ⟨p, hp, rfl⟩, rfl, rfl⟩ := h1
        simp only [Array.toList_map, List.getElem?_map, Option.map_eq_some_iff, Prod.mk.injEq, Array.getElem?_toList] at h2
        obtain ⟨q, hq, rfl, rfl⟩ := h2
        rw [hp] at hq
        obtain rfl := Option.some.inj hq
        have hsl := (h.sees.val p.2).shutV (ids := ids) (fun id hid => by rw [← hidl]; exact List.mem_flatMap.2 ⟨(p.1, st.val p.2), List.mem_map.2 ⟨p, (Array.mem_toList_iff.2 (Array.mem_of_getElem? hp)), rfl⟩, hid⟩)
        have hmem : (st.val p.2).shutV ∈ xs := by
          have : (numbered 0 xs)[k]? = some (p.1, (st.val p.2).shutV) := by rw [← hnum]; simp [hp]
          rw [numbered_get] at this
          obtain ⟨y, hy, e⟩ := Option.map_eq_some_iff.1 this
          simp only [Prod.mk.injEq] at e
          rw [← e.2]
          exact List.mem_of_getElem? hy
        exact ⟨rfl, (hsl.cells (hxc _ hmem).2).1⟩
      have hsz : ∀ x ∈ xs, x.cells.length = ie.size := fun x hx => (hxc x hx).1
      have hseq := fillCells_seq (size := ie.size) (by omega) xs 0 [] (by simp) hsz
      simp only [List.nil_append] at hseq
      have hpl : (numbered 0 xs).length = ((ps.map fun p => (p.1, a.eval p.2)).toList).length := by rw [numbered_length, hxl]; simp
      have hfill : ∀ vs : Array Value, vs.size = len * ie.size → ∃ vs', Instr.fill (fun k => some (k * ie.size, ie.size)) vs (ps.map fun p => (p.1, a.eval p.2)).toList = some vs' ∧ Rs (RO w (G.freeze w ids).S) (flat xs) vs' := by
        intro vs hvs
        exact fillR_ok (R := RO w (G.freeze w ids).S) (cs := List.replicate (xs.length * ie.size) .undef) ⟨by simp [hvs, hlen'], fun j hj => by simp only [List.getElem_replicate]; exact .undef _ _⟩ hpl hro hseq
      obtain ⟨cells, hR, hrun⟩ := run_buildSlice (t := t) hu hie hz hcap hfill w
      have hm : len ≤ maxLen := by
        have : len * 1 ≤ len * ie.size := Nat.mul_le_mul_left _ hpos
        simp only [maxLen]
        omega
      have hfl : (flat xs).length = len * ie.size := by rw [flat_length hsz, hlen']
      have hown : (w.alloc (.cells cells ti.elem)).ownsRow 0 ti.elem ie.size (.slice (some ⟨w.heap.size, 0, none⟩) len len) len cells.toList := World.ownsRow_lit w _ len (Nat.zero_le _) hm (by rw [hR.1, hfl])
      obtain ⟨hr1, hs1, hx1⟩ := hr0.newRow (w' := w.alloc (.cells cells ti.elem)) (nid := nid) (dead := []) (v := .slice (some ⟨w.heap.size, 0, none⟩) len len) (L := 0) (fz := false) (e := ti.elem) (sz := ie.size) (xs := xs) hX hF (by simp) rfl rfl rfl (by simp only [World.alloc, Array.size_push]; omega)
        (fun k hk _ => heap_alloc_eq hk) (fun fl b o hs => cell_alloc (hr0.inv.lt fl b o hs)) (by simp) (fun g hg => by
          obtain rfl : w.heap.size = g := by simpa [Value.ownBlock] using hg
          exact .inl ⟨Nat.le_refl _, by simp only [World.alloc, Array.size_push]; omega⟩) (by simp) hsz (fun y hy => by
          simp only [flat, List.mem_flatMap] at hy
          obtain ⟨x', hx', hy⟩ := hy
          exact List.all_eq_true.1 (hxc x' hx').2 y hy) (inner := cells.toList) (by rw [hlen']; exact hown) (fun j hj => by
          have := hR.2 j hj
          rw [Array.getD_eq_getD_getElem?] at this
          rw [List.getD_eq_getElem?_getD, Array.getElem?_toList]
          exact this)
      have he2 : ((st.freeze ids).scrub []).put o.dst (.own nid false ti.elem ie.size xs) = some st' := he
      refine done_value (hs0.trans hs1) hr1 hx1 ?_ he2
      have hmap : (ps.map fun x => (x.1, a.eval x.2)) = (ps.map fun p => (p.1, a.eval p.2)) := rfl
      simp only [execOp, hop, Sem.run_bind]
      rw [hrun]
      rfl
    · simp at he
  · simp at he
end
end Go.Proofs.Ytgckhjcfcandmaa.Flat
