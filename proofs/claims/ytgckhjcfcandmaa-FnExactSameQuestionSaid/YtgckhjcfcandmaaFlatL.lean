/-
The state behind an operation that makes a variable or a row.
-/
import Derived.Test.YtgckhjcfcandmaaFlatK
set_option linter.unusedVariables false
set_option linter.unusedSimpArgs false
namespace Go.Proofs.Ytgckhjcfcandmaa.Flat
section
variable {st : St} {a : Act} {w w' : World} {G G' : Gh} {X F : Nat → Prop}

def Gh.addBox (G : Gh) (nid b : Nat) : Gh := { G with μ := fun i => if i = nid then some b else G.μ i }
def Gh.addRow (G : Gh) (nid : Nat) (v : Value) (L : Nat) (dead : List Nat) : Gh :=
  { G with ρ := fun i => if i = nid then v else G.ρ i, al := fun i => i = nid ∨ (G.al i ∧ i ∉ dead), lim := fun i => if i = nid then L else G.lim i }

theorem heap_alloc_eq {w : World} {o : Obj} {k : Nat} (h : k < w.heap.size) : (w.alloc o).heap[k]? = w.heap[k]? := heap_alloc_old w o h
theorem cell_alloc {w : World} {o : Obj} {b off : Nat} (h : b < w.heap.size) : (w.alloc o).cell? ⟨b, off, none⟩ = w.cell? ⟨b, off, none⟩ := World.cell?_of_block (heap_alloc_eq h)

/-- A new variable. -/
theorem Rel.newBox (h : Rel st a w G X F) (hX : ∀ b, w.heap.size ≤ b → X b) {nid : Nat} (hF : F nid) {cs : List AV} {vs : Array Value} {T : TypeId} (hc : ∀ y ∈ cs, y.isCell = true ∨ y = .undef)
    (ho : ∀ v ∈ vs.toList, v.oneCell' = true) (hv : RVs w G cs vs) :
    Rel (st.setBox nid cs) a (w.alloc (.cells vs T)) (G.addBox nid w.heap.size) X (fun i => F i ∧ i ≠ nid) ∧ Step false w (w.alloc (.cells vs T)) G (G.addBox nid w.heap.size) X := by
  have hn := h.free nid hF
  have hi := h.inv
  have hlt : ∀ id b, G.μ id = some b → b < w.heap.size := fun id b hb => (hi.box id b hb).2.1
  have hk : Keep w (w.alloc (.cells vs T)) G (G.addBox nid w.heap.size) (fun _ => False) := {
    S := fun _ _ _ hs => hs
    cell := fun fl b o hs => cell_alloc (hi.lt fl b o hs)
    row := fun id _ hal => ⟨hal, rfl, rfl, fun g hg => heap_alloc_eq (hi.row id g hal hg).2.1⟩
    box := fun id b hb => by
      show (if id = nid then some w.heap.size else G.μ id) = some b
      rw [if_neg (fun e => by rw [e, hn.2] at hb; simp at hb)]
      exact hb }
  have hμ : ∀ {i b}, (G.addBox nid w.heap.size).μ i = some b → (i = nid ∧ b = w.heap.size) ∨ (i ≠ nid ∧ G.μ i = some b) := by
    intro i b hb
    simp only [Gh.addBox] at hb
    split at hb
    · rename_i e; exact .inl ⟨e, by simpa using hb.symm⟩
    · rename_i e; exact .inr ⟨e, hb⟩
  refine ⟨⟨h.size, h.defers, fun i => hk.rv (h.slot i), fun id ds hd => ?_, ?_, fun id hid => ?_⟩, ?_⟩
  · simp only [St.box, St.setBox, look_cons] at hd
    split at hd
    · rename_i e
      subst e
      obtain rfl := Option.some.inj hd
      refine ⟨w.heap.size, vs, T, by simp [Gh.addBox], heap_alloc_new w _, hv.1, hc, ho, fun j hj => hk.rv (hv.2 j hj)⟩
    · rename_i e
      exact (h.box id ds hd).keep hk (fun b hb => heap_alloc_eq (hlt id b hb))
  · exact {
      nb := by have := hi.nb; simp only [Gh.addBox, World.alloc, Array.size_push]; omega
      row := fun i g hal hg => by
        obtain ⟨h1, h2, h3⟩ := hi.row i g hal hg
        exact ⟨h1, by simp only [World.alloc, Array.size_push]; omega, h3⟩
      box := fun i b hb => by
        rcases hμ hb with ⟨_, rfl⟩ | ⟨_, hb⟩
        · exact ⟨hX _ (Nat.le_refl _), by simp only [World.alloc, Array.size_push]; omega, hi.nb⟩
        · obtain ⟨h1, h2, h3⟩ := hi.box i b hb
          exact ⟨h1, by simp only [World.alloc, Array.size_push]; omega, h3⟩
      rows := hi.rows
      boxes := fun i j b hi' hj' => by
        rcases hμ hi' with ⟨e1, rfl⟩ | ⟨_, hb⟩ <;> rcases hμ hj' with ⟨e2, e3⟩ | ⟨_, hb'⟩
        · rw [e1, e2]
        · have := hlt _ _ hb'; omega
        · subst e3; have := hlt _ _ hb; omega
        · exact hi.boxes i j b hb hb'
      rowBox := fun i j b hal hb hj => by
        rcases hμ hj with ⟨_, rfl⟩ | ⟨_, hj⟩
        · have := (hi.row i _ hal hb).2.1; omega
        · exact hi.rowBox i j b hal hb hj
      lt := fun fl b o hs => by have := hi.lt fl b o hs; simp only [World.alloc, Array.size_push]; omega
      old := hi.old
      new := fun b o hs => by
        obtain ⟨h1, cur, e, h2⟩ := hi.new b o hs
        exact ⟨h1, cur, e, (heap_alloc_eq (hi.lt _ b o hs)).trans h2⟩
      sBox := fun fl b o i hs hb => by
        rcases hμ hb with ⟨_, rfl⟩ | ⟨_, hb⟩
        · have := hi.lt fl _ o hs; omega
        · exact hi.sBox fl b o i hs hb
      sRow := hi.sRow }
  · refine ⟨(h.free id hid.1).1, ?_⟩
    show (if id = nid then some w.heap.size else G.μ id) = none
    rw [if_neg hid.2]
    exact (h.free id hid.1).2
  · exact ⟨rfl, rfl, rfl, by simp only [World.alloc, Array.size_push]; omega, fun b hb _ => heap_alloc_eq hb, rfl, fun _ _ _ _ hs => hs, fun fl b o _ hs => cell_alloc (hi.lt fl b o hs), fun _ _ _ hs => .inl hs⟩

theorem St.scrub_get (st : St) (ids : List Nat) (i : Nat) : (st.scrub ids).get i = st.get i ∧ ids = [] ∨ (st.scrub ids).get i = (st.get i).mapO (fun id fz e sz xs => if id ∈ ids then .undef else .own id fz e sz xs) .ptr (fun id fz e sz xs i off => if id ∈ ids then .undef else .eptr id fz e sz xs i off) (fun _ => .nils) := by
  cases ids with
  | nil => exact .inl ⟨rfl, rfl⟩
  | cons x r => exact .inr (St.get_mapO _ _ _ _ _)
theorem St.scrub_box (st : St) (ids : List Nat) (i : Nat) : (st.scrub ids).box i = st.box i ∧ ids = [] ∨ (st.scrub ids).box i = (st.box i).map fun cs => cs.map (AV.mapO (fun id fz e sz xs => if id ∈ ids then .undef else .own id fz e sz xs) .ptr (fun id fz e sz xs i off => if id ∈ ids then .undef else .eptr id fz e sz xs i off) (fun _ => .nils)) := by
  cases ids with
  | nil => exact .inl ⟨rfl, rfl⟩
  | cons x r => exact .inr (St.box_mapO _ _ _ _ _)
theorem scrub_cell (ids : List Nat) (y : AV) (h : y.isCell = true ∨ y = .undef) :
    (y.mapO (fun id fz e sz xs => if id ∈ ids then .undef else .own id fz e sz xs) .ptr (fun id fz e sz xs i off => if id ∈ ids then .undef else .eptr id fz e sz xs i off) (fun _ => .nils)).isCell = true ∨
      (y.mapO (fun id fz e sz xs => if id ∈ ids then .undef else .own id fz e sz xs) .ptr (fun id fz e sz xs i off => if id ∈ ids then .undef else .eptr id fz e sz xs i off) (fun _ => .nils)) = .undef := by
  cases y with
  | undef => exact .inr rfl
  | own id fz e sz xs =>
    simp only [AV.mapO]
    split
    · exact .inr rfl
    · exact .inl rfl
  | eptr id fz e sz xs i off =>
    simp only [AV.mapO]
    split
    · exact .inr rfl
    · exact .inl rfl
  | agg cs => rcases h with h | h <;> simp [AV.isCell] at h
  | tup cs => rcases h with h | h <;> simp [AV.isCell] at h
  | _ => exact .inl rfl

/-- All that names a row in ids is struck; what else changes leaves the rest as it is. -/
theorem Rel.scrub (h : Rel st a w G X F) {ids : List Nat} (hk : Keep w w' G G' (fun id => id ∈ ids)) (hb : ∀ id b, G.μ id = some b → w'.heap[b]? = w.heap[b]?) (hi : Inv w' G' X) {F' : Nat → Prop} (hf : ∀ id, F' id → ¬ G'.al id ∧ G'.μ id = none) :
    Rel (st.scrub ids) a w' G' X F' := by
  have hnt : (st.scrub ids).nt = st.nt := by cases ids <;> rfl
  have hke : ids = [] → Keep w w' G G' (fun _ => False) := fun e => ⟨hk.S, hk.cell, fun id hn => hk.row id (by rw [e]; simp), hk.box⟩
  refine ⟨by rw [hnt]; exact h.size, h.defers, fun i => ?_, fun id cs hc => ?_, hi, hf⟩
  · rcases st.scrub_get ids i with ⟨e, e2⟩ | e
    · rw [e]; exact (hke e2).rv (h.slot i)
    · rw [e]; exact hk.scrub (h.slot i)
  · rcases st.scrub_box ids id with ⟨e, e2⟩ | e
    · rw [e] at hc
      exact (h.box id cs hc).keep (hke e2) (hb id)
    · rw [e] at hc
      obtain ⟨cs0, hc0, rfl⟩ := Option.map_eq_some_iff.1 hc
      obtain ⟨b, vs, T, h1, h2, h3, h4, h5, h6⟩ := h.box id cs0 hc0
      refine ⟨b, vs, T, hk.box _ _ h1, (hb id b h1).trans h2, by simpa using h3, fun y hy => ?_, h5, fun j hj => ?_⟩
      · obtain ⟨y0, hy0, rfl⟩ := List.mem_map.1 hy
        exact scrub_cell ids y0 (h4 y0 hy0)
      · rw [List.getElem_map]
        exact hk.scrub (h6 j (by simpa using hj))

/-- A new row; the rows in dead (at most one: its array may be the new one's) are named no more. -/
theorem Rel.newRow (h : Rel st a w G X F) (hX : ∀ b, w.heap.size ≤ b → X b) {nid : Nat} (hF : F nid) {dead : List Nat} (hdead : ∀ i ∈ dead, G.al i) {v : Value} {L : Nat} {fz : Bool} {e sz : Nat} {xs : List AV}
    (hos : w'.os = w.os) (htape : w'.tape = w.tape) (hout : w'.output = w.output) (hsize : w.heap.size ≤ w'.heap.size)
    (hheap : ∀ k, k < w.heap.size → (∀ i ∈ dead, (G.ρ i).ownBlock ≠ some k) → w'.heap[k]? = w.heap[k]?)
    (hcell : ∀ fl b o, G.S fl b o → w'.cell? ⟨b, o, none⟩ = w.cell? ⟨b, o, none⟩)
    (hplain : ∀ i ∈ dead, ∀ b, (G.ρ i).ownBlock = some b → ∃ cur e, w'.heap[b]? = some (.cells cur e (0, 0)))
    (hv : ∀ g, v.ownBlock = some g → (w.heap.size ≤ g ∧ g < w'.heap.size) ∨ ∃ i ∈ dead, (G.ρ i).ownBlock = some g ∧ G.lim i ≤ L)
    (hL : L ≤ (if fz then xs.length * sz else 0)) (hsz : ∀ x ∈ xs, x.cells.length = sz) (hc : ∀ y ∈ flat xs, y.isCell = true)
    {inner : List Value} (hown : w'.ownsRow 0 e sz v xs.length inner) (hr : ∀ j (h : j < (flat xs).length), RO w G.S (flat xs)[j] (inner.getD j undef)) :
    Rel (st.scrub dead) a w' (G.addRow nid v L dead) X (fun i => F i ∧ i ≠ nid) ∧ Step false w w' G (G.addRow nid v L dead) X ∧ RV w' (G.addRow nid v L dead) (.own nid fz e sz xs) v := by
  have hn := h.free nid hF
  have hi := h.inv
  have hnd : nid ∉ dead := fun hd => hn.1 (hdead nid hd)
  have hρ : ∀ {i}, i ≠ nid → (G.addRow nid v L dead).ρ i = G.ρ i := fun hne => by simp [Gh.addRow, hne]
  have hρn : (G.addRow nid v L dead).ρ nid = v := by simp [Gh.addRow]
  have hal : ∀ {i}, (G.addRow nid v L dead).al i → i = nid ∨ (i ≠ nid ∧ G.al i ∧ i ∉ dead) := by
    intro i hai
    by_cases e : i = nid
    · exact .inl e
    · rcases hai with rfl | hai
      · exact absurd rfl e
      · exact .inr ⟨e, hai⟩
  have hother : ∀ i g, G.al i → i ∉ dead → (G.ρ i).ownBlock = some g → w'.heap[g]? = w.heap[g]? := fun i g h1 h2 h3 =>
    hheap g (hi.row i g h1 h3).2.1 (fun d hd hdg => hi.rows d i g (hdead d hd) h1 (fun e => h2 (e ▸ hd)) hdg h3)
  have hbox : ∀ id b, G.μ id = some b → w'.heap[b]? = w.heap[b]? := fun id b hb =>
    hheap b (hi.box id b hb).2.1 (fun d hd hdb => hi.rowBox d id b (hdead d hd) hdb hb)
  have hk : Keep w w' G (G.addRow nid v L dead) (fun id => id ∈ dead) := {
    S := fun _ _ _ hs => hs
    cell := hcell
    row := fun id hid hai => by
      have hne : id ≠ nid := fun e => hn.1 (e ▸ hai)
      exact ⟨.inr ⟨hai, hid⟩, hρ hne, by simp [Gh.addRow, hne], fun g hg => hother id g hai hid hg⟩
    box := fun _ _ hb => hb }
  have hvx : ∀ g, v.ownBlock = some g → X g ∧ g < w'.heap.size ∧ G.nb ≤ g := by
    intro g hg
    rcases hv g hg with ⟨h1, h2⟩ | ⟨i, hd, h1, _⟩
    · exact ⟨hX g h1, h2, Nat.le_trans hi.nb h1⟩
    · obtain ⟨h2, h3, h4⟩ := hi.row i g (hdead i hd) h1
      exact ⟨h2, Nat.lt_of_lt_of_le h3 hsize, h4⟩
  have hvn : ∀ i g, G.al i → i ∉ dead → (G.ρ i).ownBlock = some g → v.ownBlock ≠ some g := by
    intro i g h1 h2 h3 h4
    rcases hv g h4 with ⟨h5, _⟩ | ⟨d, hd, h5, _⟩
    · have := (hi.row i g h1 h3).2.1; omega
    · exact hi.rows d i g (hdead d hd) h1 (fun e => h2 (e ▸ hd)) h5 h3
  have hinv : Inv w' (G.addRow nid v L dead) X := {
    nb := Nat.le_trans hi.nb hsize
    row := fun i g hai hg => by
      rcases hal hai with rfl | ⟨hne, h1, h2⟩
      · rw [hρn] at hg; exact hvx g hg
      · rw [hρ hne] at hg
        obtain ⟨h3, h4, h5⟩ := hi.row i g h1 hg
        exact ⟨h3, Nat.lt_of_lt_of_le h4 hsize, h5⟩
    box := fun i b hb => by
      obtain ⟨h3, h4, h5⟩ := hi.box i b hb
      exact ⟨h3, Nat.lt_of_lt_of_le h4 hsize, h5⟩
    rows := fun i j g hai haj hij hg hg' => by
      rcases hal hai with rfl | ⟨hne, h1, h2⟩ <;> rcases hal haj with rfl | ⟨hne', h1', h2'⟩
      · exact hij rfl
      · rw [hρn] at hg; rw [hρ hne'] at hg'; exact hvn j g h1' h2' hg' hg
      · rw [hρ hne] at hg; rw [hρn] at hg'; exact hvn i g h1 h2 hg hg'
      · rw [hρ hne] at hg; rw [hρ hne'] at hg'; exact hi.rows i j g h1 h1' hij hg hg'
    boxes := hi.boxes
    rowBox := fun i j b hai hg hb => by
      rcases hal hai with rfl | ⟨hne, h1, h2⟩
      · rw [hρn] at hg
        rcases hv b hg with ⟨h5, _⟩ | ⟨d, hd, h5, _⟩
        · have := (hi.box j b hb).2.1; omega
        · exact hi.rowBox d j b (hdead d hd) h5 hb
      · rw [hρ hne] at hg; exact hi.rowBox i j b h1 hg hb
    lt := fun fl b o hs => Nat.lt_of_lt_of_le (hi.lt fl b o hs) hsize
    old := hi.old
    new := fun b o hs => by
      obtain ⟨h1, cur, e, h2⟩ := hi.new b o hs
      refine ⟨h1, ?_⟩
      by_cases hd : ∃ i ∈ dead, (G.ρ i).ownBlock = some b
      · obtain ⟨i, hd, hb⟩ := hd; exact hplain i hd b hb
      · exact ⟨cur, e, (hheap b (hi.lt _ b o hs) (fun i hd' hb => hd ⟨i, hd', hb⟩)).trans h2⟩
    sBox := hi.sBox
    sRow := fun fl b o i hs hai hg => by
      rcases hal hai with rfl | ⟨hne, h1, h2⟩
      · rw [hρn] at hg
        have hl : (G.addRow i v L dead).lim i = L := by simp [Gh.addRow]
        rw [hl]
        rcases hv b hg with ⟨h5, _⟩ | ⟨d, hd, h5, h6⟩
        · have := hi.lt fl b o hs; omega
        · exact Nat.lt_of_lt_of_le (hi.sRow fl b o d hs (hdead d hd) h5) h6
      · rw [hρ hne] at hg
        have hl : (G.addRow nid v L dead).lim i = G.lim i := by simp [Gh.addRow, hne]
        rw [hl]
        exact hi.sRow fl b o i hs h1 hg }
  refine ⟨h.scrub hk hbox hinv (fun id hid => ?_), ⟨hos, htape, hout, hsize, fun b hb hx => ?_, rfl, fun _ _ _ _ hs => hs, fun fl b o _ hs => hcell fl b o hs, fun _ _ _ hs => .inl hs⟩, ?_⟩
  · refine ⟨fun hai => ?_, (h.free id hid.1).2⟩
    rcases hal hai with e | ⟨_, h1, _⟩
    · exact hid.2 e
    · exact (h.free id hid.1).1 h1
  · exact hheap b hb (fun i hd hg => hx (hi.row i b (hdead i hd) hg).1)
  · have := RV.own (w := w') (G := G.addRow nid v L dead) nid fz e sz xs ⟨.inl rfl, by simpa [Gh.addRow] using hL, hsz, hc, inner, by rw [hρn]; exact hown, fun j hj => (hr j hj).mono (fun _ _ _ hs => hs) hcell⟩
    rw [hρn] at this
    exact this
end
end Go.Proofs.Ytgckhjcfcandmaa.Flat
