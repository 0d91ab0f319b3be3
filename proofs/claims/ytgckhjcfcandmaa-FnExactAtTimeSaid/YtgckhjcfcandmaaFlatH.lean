/-
Structs that are built; constants; and all operations that change nothing, in one.
-/
import Derived.Test.YtgckhjcfcandmaaFlatG
set_option linter.unusedVariables false
set_option linter.unusedSimpArgs false
namespace Go.Proofs.Ytgckhjcfcandmaa.Flat
variable {P : Program} {w : World} {G : Gh}

theorem put_size (off : Nat) : ∀ (vs : List (Value × Nat)) (cs : Array Value), (vs.foldl (fun cs (p : Value × Nat) => cs.setIfInBounds (off + p.2) p.1) cs).size = cs.size
  | [], _ => rfl
  | p :: vs, cs => by rw [List.foldl_cons, put_size off vs]; simp
theorem put_get (off : Nat) : ∀ (vs : List Value) (m : Nat) (cs : Array Value) (k : Nat), off + m + vs.length ≤ cs.size →
    ((vs.zipIdx m).foldl (fun cs (p : Value × Nat) => cs.setIfInBounds (off + p.2) p.1) cs).getD k undef = if off + m ≤ k ∧ k < off + m + vs.length then vs.getD (k - (off + m)) undef else cs.getD k undef
  | [], m, cs, k, _ => by simp; intro h1 h2; omega
  | v :: vs, m, cs, k, h => by
    simp only [List.length_cons] at h
    rw [List.zipIdx_cons, List.foldl_cons, put_get off vs (m + 1) _ k (by simp; omega)]
    by_cases h1 : k = off + m
    · subst h1
      rw [if_neg (by omega), if_pos (by simp)]
      simp [Array.getD_eq_getD_getElem?, Array.getElem?_setIfInBounds]
      have : off + m < cs.size := by omega
      simp [this]
    · by_cases h2 : off + m + 1 ≤ k ∧ k < off + m + 1 + vs.length
      · rw [if_pos (by omega), if_pos (by simp; omega)]
        have e : k - (off + m) = (k - (off + (m + 1))) + 1 := by omega
        rw [e, List.getD_cons_succ]
      · rw [if_neg (by omega), if_neg (by simp; omega)]
        simp only [Array.getD_eq_getD_getElem?, Array.getElem?_setIfInBounds]
        rw [if_neg (by omega)]

/-- Cells that stand for cells. -/
def RVs (w : World) (G : Gh) (cs : List AV) (vs : Array Value) : Prop := vs.size = cs.length ∧ ∀ j (h : j < cs.length), RV w G cs[j] (vs.getD j undef)

theorem RV.cells {x : AV} {v : Value} (h : RV w G x v) (hu : x ≠ .undef) : RVs w G x.cells v.cells := by
  have key : (∀ cs, x ≠ .agg cs) → (∀ vs, v ≠ .agg vs) → RVs w G x.cells v.cells := by
    intro h1 h2
    have e1 : x.cells = [x] := by cases x <;> first | rfl | exact absurd rfl (h1 _)
    have e2 : v.cells = #[v] := by cases v <;> first | rfl | exact absurd rfl (h2 _)
    rw [e1, e2]
    refine ⟨rfl, fun j hj => ?_⟩
    obtain rfl : j = 0 := by simpa using hj
    exact h
  cases x with
  | agg cs =>
    obtain ⟨vs, rfl, hl, hr⟩ := h.agg_inv
    exact ⟨hl, hr⟩
  | undef => exact absurd rfl hu
  | tup cs =>
    obtain ⟨vs, rfl, hl, hr⟩ := h.tup_inv
    exact key (fun _ e => by cases e) (fun _ e => by cases e)
  | _ =>
    have h1 := h.one rfl
    refine key (fun _ e => by cases e) (fun vs e => ?_)
    subst e
    simp [Value.oneCell'] at h1

theorem ofCell_ok {v : Value} {a : AV} (h : ofCell v = some a) : RV w G a v ∧ a.isCell = true := by
  unfold ofCell at h
  split at h
  · obtain rfl := Option.some.inj h; exact ⟨rvInt _ _, rfl⟩
  · obtain rfl := Option.some.inj h; exact ⟨rvBool _, rfl⟩
  · obtain rfl := Option.some.inj h; exact ⟨rvStr _, rfl⟩
  · obtain rfl := Option.some.inj h; exact ⟨.nils, rfl⟩
  · simp at h
theorem ofCells_ok : ∀ {vs : List Value} {cs : List AV}, ofCells vs = some cs → cs.length = vs.length ∧ (∀ y ∈ cs, y.isCell = true) ∧ ∀ j (h : j < cs.length), RV w G cs[j] (vs.getD j undef)
  | [], cs, h => by
    obtain rfl : [] = cs := by simpa [ofCells] using h
    exact ⟨rfl, by simp, fun j hj => by simp at hj⟩
  | v :: vs, cs, h => by
    simp only [ofCells] at h
    obtain ⟨a, ha, h⟩ := Option.bind_eq_some_iff.1 h
    obtain ⟨r, hr, rfl⟩ := Option.map_eq_some_iff.1 h
    obtain ⟨h1, h2, h3⟩ := ofCells_ok hr
    obtain ⟨h4, h5⟩ := ofCell_ok (w := w) (G := G) ha
    refine ⟨by simp [h1], fun y hy => ?_, fun j hj => ?_⟩
    · rcases List.mem_cons.1 hy with rfl | hy
      · exact h5
      · exact h2 y hy
    · cases j with
      | zero => exact h4
      | succ j => simpa using h3 j (by simpa using hj)
theorem ofCells_RVs {z : Value} {cs : List AV} (h : ofCells z.cells.toList = some cs) : RVs w G cs z.cells := by
  obtain ⟨h1, _, h3⟩ := ofCells_ok (w := w) (G := G) h
  refine ⟨by simp [h1], fun j hj => ?_⟩
  have := h3 j hj
  rw [List.getD_eq_getElem?_getD, Array.getElem?_toList] at this
  rw [Array.getD_eq_getD_getElem?]
  exact this
theorem ofConst_ok (v : Value) : RV w G ((ofConst v).getD .undef) v := by
  cases h : ofConst v with
  | none => exact rvUndef v
  | some a =>
    unfold ofConst at h
    split at h
    · rename_i cs
      obtain ⟨l, hl, rfl⟩ := Option.map_eq_some_iff.1 h
      obtain ⟨h1, h2⟩ := ofCells_RVs (w := w) (G := G) (z := .agg cs) hl
      exact .agg _ _ h1 h2
    · exact (ofCell_ok h).1

theorem RVs.put {cs : List AV} {vs : Array Value} {x : AV} {v : Value} {off : Nat} (h : RVs w G cs vs) (hx : RVs w G x.cells v.cells) (hb : off + x.cells.length ≤ cs.length) :
    RVs w G (cs.take off ++ x.cells ++ cs.drop (off + x.cells.length)) (v.cells.zipIdx.foldl (fun cs (p : Value × Nat) => cs.setIfInBounds (off + p.2) p.1) vs) := by
  rw [← Array.foldl_toList, Array.toList_zipIdx]
  have hl : off + 0 + v.cells.toList.length ≤ vs.size := by simp [hx.1, h.1]; omega
  refine ⟨?_, fun j hj => ?_⟩
  · rw [put_size, h.1]; simp; omega
  · rw [put_get off _ 0 vs j hl]
    simp only [Nat.add_zero, Array.length_toList, hx.1]
    by_cases h1 : j < off
    · rw [if_neg (by omega), List.getElem_append_left (by simp; omega), List.getElem_append_left (by simp; omega), List.getElem_take]
      exact h.2 _ _
    · by_cases h2 : j < off + x.cells.length
      · rw [if_pos (by omega), List.getElem_append_left (by simp; omega), List.getElem_append_right (by simp; omega)]
        have := hx.2 (j - off) (by omega)
        rw [Array.getD_eq_getD_getElem?] at this
        rw [List.getD_eq_getElem?_getD, Array.getElem?_toList]
        have e : j - (List.take off cs).length = j - off := by simp; omega
        simp only [e]
        exact this
      · rw [if_neg (by omega), List.getElem_append_right (by simp; omega)]
        have e : j = off + x.cells.length + (j - (List.take off cs ++ x.cells).length) := by simp; omega
        have := h.2 j (by simp at hj; omega)
        simp only [List.getElem_drop]
        have e2 : cs[off + x.cells.length + (j - (List.take off cs ++ x.cells).length)]'(by simp at hj ⊢; omega) = cs[j]'(by simp at hj; omega) := by congr 1; exact e.symm
        rw [e2]
        exact this

theorem fill_ok {place place' : Nat → Option (Nat × Nat)} (hp : ∀ i q, place i = some q → q.2 ≠ 0 → place' i = some q) : ∀ {parts : List (Nat × AV)} {parts' : List (Nat × Value)} {cs cs' : List AV} {vs : Array Value},
    RVs w G cs vs → parts.length = parts'.length → (∀ (k i : Nat) (x : AV) (i' : Nat) (v : Value), parts[k]? = some (i, x) → parts'[k]? = some (i', v) → i = i' ∧ RV w G x v) → (∀ p ∈ parts, p.2 ≠ .undef) → fillCells place cs parts = some cs' →
    ∃ vs', Instr.fill place' vs parts' = some vs' ∧ RVs w G cs' vs'
  | [], parts', cs, cs', vs, h, hl, _, _, hf => by
    obtain rfl : parts' = [] := by cases parts' <;> simp_all
    obtain rfl : cs = cs' := by simpa [fillCells] using hf
    exact ⟨vs, rfl, h⟩
  | (i, x) :: parts, parts', cs, cs', vs, h, hl, hr, hu, hf => by
    cases parts' with
    | nil => simp at hl
    | cons p parts' =>
      obtain ⟨i', v⟩ := p
      obtain ⟨rfl, hxv⟩ := hr 0 i x i' v rfl rfl
      simp only [fillCells] at hf
      obtain ⟨⟨off, size⟩, hpl, hf⟩ := Option.bind_eq_some_iff.1 hf
      simp only at hf
      split at hf
      · rename_i hc
        obtain ⟨hc1, hc2, hc3⟩ := hc
        have hcells := hxv.cells (hu (i, x) (by simp))
        have hput := h.put (off := off) hcells (by omega)
        rw [hc1] at hput
        obtain ⟨vs', h1, h2⟩ := fill_ok hp hput (by simpa using hl) (fun k i x i' v h1 h2 => hr (k + 1) i x i' v (by simpa using h1) (by simpa using h2)) (fun q hq => hu q (List.mem_cons_of_mem _ hq)) hf
        refine ⟨vs', ?_, h2⟩
        rw [Instr.fill.eq_2, hp i _ hpl hc2]
        simp only
        rw [if_neg (by simp [hcells.1, hc1, h.1]; omega)]
        exact h1
      · simp at hf

theorem mapM_places {fs : List Field} (h : ∀ f ∈ fs, (P.info? f.type).isSome) : fs.mapM (fun f => (P.info? f.type).map fun i => (f.offset, i.size)) = some (fs.map fun f => (f.offset, ((P.info? f.type).map (·.size)).getD 0)) := by
  induction fs with
  | nil => rfl
  | cons f fs ih =>
    obtain ⟨i, hi⟩ := Option.isSome_iff_exists.1 (h f (by simp))
    rw [List.mapM_cons, ih (fun g hg => h g (by simp [hg]))]
    simp [hi]
/-- All parts of a struct have types that are known. -/
theorem evBuild_ok {t : Nat} {parts : List (Nat × AV)} {parts' : Array (Nat × Value)} {a : AV} (hl : parts.length = parts'.size) (hr : ∀ (k i : Nat) (x : AV) (i' : Nat) (v : Value), parts[k]? = some (i, x) → parts'[k]? = some (i', v) → i = i' ∧ RV w G x v)
    (h : evBuild P t parts = some a) : ∃ v, (Instr.build t parts').run P w = .ok v w ∧ RV w G a v := by
  unfold evBuild at h
  obtain ⟨ti, hti, h⟩ := Option.bind_eq_some_iff.1 h
  split at h
  · rename_i hund
    obtain ⟨z, hz, h⟩ := Option.bind_eq_some_iff.1 h
    obtain ⟨zs, hzs, h⟩ := Option.bind_eq_some_iff.1 h
    obtain ⟨it, d, hi, hd, rfl⟩ := tiOf_some hti
    have hR := ofCells_RVs (w := w) (G := G) hzs
    have hu : ∀ p ∈ parts, p.2 ≠ .undef := by
      intro p hp e
      have := List.all_eq_true.1 hund p hp
      rw [e] at this
      simp [AV.isUndef] at this
    have hl' : parts.length = parts'.toList.length := by simpa using hl
    have hr' : ∀ (k i : Nat) (x : AV) (i' : Nat) (v : Value), parts[k]? = some (i, x) → parts'.toList[k]? = some (i', v) → i = i' ∧ RV w G x v := fun k i x i' v h1 h2 => hr k i x i' v h1 (by simpa using h2)
    split at h
    · rename_i hs
      split at h
      · rename_i hall
        obtain ⟨cs, hcs, rfl⟩ := Option.map_eq_some_iff.1 h
        obtain ⟨fs, hu1, hfs⟩ := tagOf_struct (of_decide_eq_true hs) hti
        obtain rfl : d = .struct fs := by rw [hd] at hu1; simpa using hu1
        simp only at hfs hcs hz hall
        have hknown : ∀ f ∈ fs.toList, (P.info? f.type).isSome ∧ ((P.info? f.type).map (·.size)).getD 0 = sizeD P f.type := by
          intro f hf
          have := List.all_eq_true.1 hall (f.offset, sizeD P f.type, ((P.underlying f.type).map isAggD).getD false) (List.mem_map.2 ⟨f, hf, rfl⟩)
          obtain ⟨i, d, h1, h2, h3⟩ := sizeD_ne (of_decide_eq_true this)
          rw [h3]
          simp [h1]
        have hpl := mapM_places (P := P) (fun f hf => (hknown f hf).1)
        obtain ⟨vs', h1, h2⟩ := fill_ok (place' := fun x => ((fs.toList.map fun f => (f.offset, ((P.info? f.type).map (·.size)).getD 0)).toArray[x]?)) (fun i q hq _ => by
          simp only [fieldsD, List.getElem?_map, Option.map_eq_some_iff] at hq
          obtain ⟨f, ⟨f', hf', rfl⟩, rfl⟩ := hq
          simp only [List.getElem?_toArray, List.getElem?_map, hf', Option.map_some]
          rw [(hknown f' (List.mem_of_getElem? hf')).2]) hR hl' hr' hu hcs
        refine ⟨_, run_build (P := P) w t parts' vs' ?_, .agg _ _ h2.1 h2.2⟩
        simp only [Program.built, hi, hd, hz, hpl]
        exact h1
      · simp at h
    · rename_i hs
      split at h
      · rename_i n hn
        obtain ⟨te, hte, h⟩ := Option.bind_eq_some_iff.1 h
        obtain ⟨cs, hcs, rfl⟩ := Option.map_eq_some_iff.1 h
        have ha : tagOf P t = .array n := by
          unfold isArrayT at hn
          split at hn
          · rename_i n' hn'; rw [hn']; simp at hn; rw [hn]
          · simp at hn
        have hu1 := tagOf_array ha hti
        simp only at hu1
        obtain ⟨ie, de, hie, hde, rfl⟩ := tiOf_some hte
        obtain ⟨vs', h1, h2⟩ := fill_ok (place' := fun i => some (i * ie.size, ie.size)) (fun i q hq _ => hq) hR hl' hr' hu hcs
        refine ⟨_, run_build (P := P) w t parts' vs' ?_, .agg _ _ h2.1 h2.2⟩
        simp only at hz
        simp only [Program.built, hi, hu1, hz, hie]
        exact h1
      · simp at h
  · simp at h

end Go.Proofs.Ytgckhjcfcandmaa.Flat
