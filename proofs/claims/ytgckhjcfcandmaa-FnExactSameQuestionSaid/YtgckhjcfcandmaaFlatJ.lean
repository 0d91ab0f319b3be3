/-
The state: what stands in the slots and in the variables; and what changes of the world leave as it is.
-/
import Derived.Test.YtgckhjcfcandmaaFlatI
set_option linter.unusedVariables false
set_option linter.unusedSimpArgs false
namespace Go.Proofs.Ytgckhjcfcandmaa.Flat

/-! ### look -/
theorem look_cons {α : Type} (i j : Nat) (v : α) (r : List (Nat × α)) : look i ((j, v) :: r) = if i = j then some v else look i r := rfl
theorem look_map {α β : Type} (F : α → β) (i : Nat) (l : List (Nat × α)) : look i (l.map fun p => (p.1, F p.2)) = (look i l).map F := by
  induction l with
  | nil => rfl
  | cons p r ih =>
    obtain ⟨j, v⟩ := p
    simp only [List.map_cons, look_cons]
    split
    · rfl
    · exact ih
theorem St.get_mapO (st : St) (f : Nat → Bool → Nat → Nat → List AV → AV) (g : Nat → Nat → AV) (h : Nat → Bool → Nat → Nat → List AV → Nat → Nat → AV) (i : Nat) :
    (st.mapO f g h).get i = (st.get i).mapO f g h (fun _ => .nils) := by
  unfold St.get St.mapO
  rw [look_map (fun v => AV.mapO f g h (fun _ => .nils) v)]
  cases look i st.sl <;> rfl
theorem St.box_mapO (st : St) (f : Nat → Bool → Nat → Nat → List AV → AV) (g : Nat → Nat → AV) (h : Nat → Bool → Nat → Nat → List AV → Nat → Nat → AV) (i : Nat) :
    (st.mapO f g h).box i = (st.box i).map fun cs => cs.map (AV.mapO f g h (fun _ => .nils)) := by
  unfold St.box St.mapO
  rw [look_map (fun cs => AV.mapOs f g h (fun _ => .nils) cs)]
  cases look i st.bx with
  | none => rfl
  | some cs => simp only [Option.map_some, AV.mapOs_eq]

/-! ### what a step leaves as it is -/
structure Keep (w w' : World) (G G' : Gh) (N : Nat → Prop) : Prop where
  S : ∀ fl b o, G.S fl b o → G'.S fl b o
  cell : ∀ fl b o, G.S fl b o → w'.cell? ⟨b, o, none⟩ = w.cell? ⟨b, o, none⟩
  row : ∀ id, ¬ N id → G.al id → G'.al id ∧ G'.ρ id = G.ρ id ∧ G'.lim id = G.lim id ∧ ∀ g, (G.ρ id).ownBlock = some g → w'.heap[g]? = w.heap[g]?
  box : ∀ id b, G.μ id = some b → G'.μ id = some b

section
variable {w w' : World} {G G' : Gh} {N : Nat → Prop}

theorem ownsRow_move {base e size n : Nat} {v : Value} {xs : List Value} (h : w.ownsRow base e size v n xs) (hm : ∀ k, v.ownBlock = some k → w'.heap[k]? = w.heap[k]?) : w'.ownsRow base e size v n xs := by
  obtain ⟨h1, h2⟩ := h
  refine ⟨h1, ?_⟩
  rcases h2 with h2 | ⟨g, cap, cur, rfl, hg, hh, r⟩
  · exact .inl h2
  · exact .inr ⟨g, cap, cur, rfl, hg, (hm g (by simp [Value.ownBlock])).trans hh, r⟩

theorem Keep.ro (hk : Keep w w' G G' N) {a : AV} {v : Value} (h : RO w G.S a v) : RO w' G'.S a v := h.mono hk.S hk.cell
theorem Keep.rowOK (hk : Keep w w' G G' N) {id : Nat} {fz : Bool} {e sz : Nat} {xs : List AV} (hn : ¬ N id) (h : RowOK w G id fz e sz xs) : RowOK w' G' id fz e sz xs := by
  obtain ⟨hal, hlim, hsz, hcell, inner, ho, hr⟩ := h
  obtain ⟨h1, h2, h3, h4⟩ := hk.row id hn hal
  refine ⟨h1, by rw [h3]; exact hlim, hsz, hcell, inner, ?_, fun j hj => hk.ro (hr j hj)⟩
  rw [h2]
  exact ownsRow_move ho h4
theorem Keep.rv (hk : Keep w w' G G' (fun _ => False)) {a : AV} {v : Value} (h : RV w G a v) : RV w' G' a v := by
  induction h with
  | ro h => exact .ro (hk.ro h)
  | nils => exact .nils
  | own id fz e sz xs h =>
    have := (hk.row id (fun h => h) h.1).2.1
    rw [← this]
    exact .own _ _ _ _ _ (hk.rowOK (fun h => h) h)
  | ptr id off b h => exact .ptr _ _ _ (hk.box _ _ h)
  | eptr id fz e sz xs i off ad n c h hρ =>
    have := (hk.row id (fun h => h) h.1).2.1
    exact .eptr _ _ _ _ _ _ _ _ n c (hk.rowOK (fun h => h) h) (by rw [this]; exact hρ)
  | agg cs vs hl hr ih => exact .agg _ _ hl ih
  | tup cs vs hl hr ih => exact .tup _ _ hl ih
  | clo f cs vs hl hr ih => exact .clo _ _ _ hl ih
/-- The rows in ids are named no more. -/
theorem Keep.scrub {ids : List Nat} (hk : Keep w w' G G' (fun id => id ∈ ids)) {a : AV} {v : Value} (h : RV w G a v) :
    RV w' G' (a.mapO (fun id fz e sz xs => if id ∈ ids then .undef else .own id fz e sz xs) .ptr (fun id fz e sz xs i off => if id ∈ ids then .undef else .eptr id fz e sz xs i off) (fun _ => .nils)) v := by
  refine RV.map (fun a v h => hk.ro h) ?_ ?_ ?_ .nils h
  · intro id fz e sz xs h
    split
    · exact rvUndef _
    · rename_i hn
      have := (hk.row id hn h.1).2.1
      rw [← this]
      exact .own _ _ _ _ _ (hk.rowOK hn h)
  · intro id off b h
    exact .ptr _ _ _ (hk.box _ _ h)
  · intro id fz e sz xs i off ad n c h hρ
    split
    · exact rvUndef _
    · rename_i hn
      have := (hk.row id hn h.1).2.1
      exact .eptr _ _ _ _ _ _ _ _ n c (hk.rowOK hn h) (by rw [this]; exact hρ)
end

/-- The state stands for the frame and the world. F: names that are not in use. -/
structure Rel (st : St) (a : Act) (w : World) (G : Gh) (X F : Nat → Prop) : Prop where
  size : a.tmps.size = st.nt
  defers : a.defers = []
  slot : ∀ i, RV w G (st.get i) (a.tmps.getD i undef)
  box : ∀ id cs, st.box id = some cs → BoxOK w G id cs
  inv : Inv w G X
  free : ∀ id, F id → ¬ G.al id ∧ G.μ id = none

/-- What a step does to the world, seen from outside. k: may it write over what was made before? -/
structure Step (k : Bool) (w w' : World) (G G' : Gh) (X : Nat → Prop) : Prop where
  os : w'.os = w.os
  tape : w'.tape = w.tape
  output : w'.output = w.output
  size : w.heap.size ≤ w'.heap.size
  block : ∀ b, b < w.heap.size → ¬ X b → w'.heap[b]? = w.heap[b]?
  nb : G'.nb = G.nb
  S : ∀ fl b o, k = false ∨ fl = false → G.S fl b o → G'.S fl b o
  cell : ∀ fl b o, k = false ∨ fl = false → G.S fl b o → w'.cell? ⟨b, o, none⟩ = w.cell? ⟨b, o, none⟩
  newS : ∀ fl b o, G'.S fl b o → G.S fl b o ∨ (fl = true ∧ (X b ∨ w.heap.size ≤ b))

theorem Step.refl (k : Bool) (w : World) (G : Gh) (X : Nat → Prop) : Step k w w G G X := ⟨rfl, rfl, rfl, Nat.le_refl _, fun _ _ _ => rfl, rfl, fun _ _ _ _ h => h, fun _ _ _ _ _ => rfl, fun _ _ _ h => .inl h⟩
theorem Step.trans {k : Bool} {w w' w'' : World} {G G' G'' : Gh} {X : Nat → Prop} (h : Step k w w' G G' X) (h' : Step k w' w'' G' G'' X) : Step k w w'' G G'' X where
  os := h'.os.trans h.os
  tape := h'.tape.trans h.tape
  output := h'.output.trans h.output
  size := Nat.le_trans h.size h'.size
  block := fun b hb hx => (h'.block b (Nat.lt_of_lt_of_le hb h.size) hx).trans (h.block b hb hx)
  nb := h'.nb.trans h.nb
  S := fun fl b o hk hs => h'.S fl b o hk (h.S fl b o hk hs)
  cell := fun fl b o hk hs => (h'.cell fl b o hk (h.S fl b o hk hs)).trans (h.cell fl b o hk hs)
  newS := fun fl b o hs => by
    rcases h'.newS fl b o hs with h1 | ⟨h1, h2⟩
    · exact h.newS fl b o h1
    · refine .inr ⟨h1, ?_⟩
      rcases h2 with h2 | h2
      · exact .inl h2
      · exact .inr (Nat.le_trans h.size h2)
theorem Step.weaken {k : Bool} {w w' : World} {G G' : Gh} {X : Nat → Prop} (h : Step false w w' G G' X) : Step k w w' G G' X where
  os := h.os
  tape := h.tape
  output := h.output
  size := h.size
  block := h.block
  nb := h.nb
  S := fun fl b o _ => h.S fl b o (.inl rfl)
  cell := fun fl b o _ => h.cell fl b o (.inl rfl)
  newS := h.newS

section
variable {st : St} {a : Act} {w w' : World} {G G' : Gh} {X F : Nat → Prop}

theorem getD_set {tmps : Array Value} {d i : Nat} {v : Value} (h : d < tmps.size) : (tmps.setIfInBounds d v).getD i undef = if i = d then v else tmps.getD i undef := by
  simp only [Array.getD_eq_getD_getElem?, Array.getElem?_setIfInBounds]
  by_cases h1 : d = i
  · subst h1
    simp [h]
  · rw [if_neg h1, if_neg (fun e => h1 e.symm)]

/-- A slot is written. -/
theorem Rel.put (h : Rel st a w G X F) {dst : Option Nat} {x : AV} {v : Value} {st' : St} (hx : RV w G x v) (hp : st.put dst x = some st') : Rel st' (a.put dst v) w G X F ∧ st'.nx = st.nx ∧ st'.nt = st.nt ∧ st'.bx = st.bx := by
  unfold St.put at hp
  cases dst with
  | none =>
    obtain rfl := Option.some.inj hp
    exact ⟨h, rfl, rfl, rfl⟩
  | some d =>
    simp only at hp
    split at hp
    · rename_i hd
      obtain rfl := Option.some.inj hp
      refine ⟨⟨by simp [Act.put, h.size], h.defers, fun i => ?_, h.box, h.inv, h.free⟩, rfl, rfl, rfl⟩
      simp only [Act.put, St.get, look_cons]
      rw [getD_set (by rw [h.size]; exact hd)]
      by_cases hi : i = d
      · rw [if_pos hi, if_pos hi]; exact hx
      · rw [if_neg hi, if_neg hi]; exact h.slot i
    · simp at hp

theorem BoxOK.keep {id : Nat} {cs : List AV} (hk : Keep w w' G G' (fun _ => False)) (h : BoxOK w G id cs) (hb : ∀ b, G.μ id = some b → w'.heap[b]? = w.heap[b]?) : BoxOK w' G' id cs := by
  obtain ⟨b, vs, T, h1, h2, h3, h4, h5, h6⟩ := h
  exact ⟨b, vs, T, hk.box _ _ h1, (hb b h1).trans h2, h3, h4, h5, fun j hj => hk.rv (h6 j hj)⟩

/-- The world has grown, nothing of ours has changed. -/
theorem Rel.keep (h : Rel st a w G X F) (hk : Keep w w' G G' (fun _ => False)) (hb : ∀ id b, G.μ id = some b → w'.heap[b]? = w.heap[b]?) (hi : Inv w' G' X) {F' : Nat → Prop} (hf : ∀ id, F' id → ¬ G'.al id ∧ G'.μ id = none) : Rel st a w' G' X F' :=
  ⟨h.size, h.defers, fun i => hk.rv (h.slot i), fun id cs hc => (h.box id cs hc).keep hk (hb id), hi, hf⟩

theorem Rel.sees (h : Rel st a w G X F) : Sees st.box st.val a.eval w G where
  val := fun x => by
    cases x with
    | tmp t => exact h.slot t
    | const v => exact ofConst_ok v
    | global g => exact rvUndef _
    | func f => exact .clo _ _ _ rfl (fun j hj => by simp at hj)
  box := h.box
end

end Go.Proofs.Ytgckhjcfcandmaa.Flat
