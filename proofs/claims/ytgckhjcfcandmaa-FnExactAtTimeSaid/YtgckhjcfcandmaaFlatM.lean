/-
Rows that are handed on to be read.
-/
import Derived.Test.YtgckhjcfcandmaaFlatL
set_option linter.unusedVariables false
set_option linter.unusedSimpArgs false
namespace Go.Proofs.Ytgckhjcfcandmaa.Flat
section
variable {st : St} {a : Act} {w w' : World} {G G' : Gh} {X F : Nat → Prop}

/-- How many cells of a row of ours are in use. -/
noncomputable def rowCells (w : World) (G : Gh) (id : Nat) : Nat :=
  match G.ρ id with
  | .slice (some ad) n c => (match w.heap[ad.block]? with | some (.cells cur _ _) => n * (cur.size / c) | _ => 0)
  | _ => 0
theorem RowOK.cells {id : Nat} {fz : Bool} {e sz : Nat} {xs : List AV} (h : RowOK w G id fz e sz xs) : rowCells w G id = xs.length * sz := by
  obtain ⟨_, _, _, _, inner, ho, _⟩ := h
  rcases ho.2 with ⟨h5, h6⟩ | ⟨g, cap, cur, h5, h0, h7, h6, hm, hs, _⟩
  · rw [h6, Nat.zero_mul]; simp [rowCells, h5]
  · simp only [rowCells, h5, h7]
    by_cases hc : cap = 0
    · have : xs.length = 0 := by omega
      rw [this, Nat.zero_mul, Nat.zero_mul]
    · rw [hs, Nat.mul_div_cancel_left _ (by omega)]
/-- The cells that may be read besides: of rows in Rw, and of variables in Bs. -/
def Gh.more (G : Gh) (w : World) (Rw Bs : Nat → Prop) : Cells := fun fl b o =>
  G.S fl b o ∨ (fl = true ∧ ((∃ id, Rw id ∧ G.al id ∧ (G.ρ id).ownBlock = some b ∧ o < rowCells w G id) ∨ (∃ id, Bs id ∧ G.μ id = some b)))

theorem RowOK.sl {id : Nat} {fz : Bool} {e sz : Nat} {xs : List AV} (h : RowOK w G id fz e sz xs) {S : Cells} (hS : ∀ fl b o, G.S fl b o → S fl b o) (hrow : ∀ g o, (G.ρ id).ownBlock = some g → o < xs.length * sz → S true g o) :
    RO w S (.sl true xs) (G.ρ id) := by
  obtain ⟨hal, hlim, hsz, hcell, inner, ho, hr⟩ := h
  rcases ho.2 with ⟨h5, h6⟩ | ⟨g, cap, cur, h5, h0, h7, h6, hm, hs, _⟩
  · obtain rfl : xs = [] := List.eq_nil_of_length_eq_zero h6
    rw [h5]
    exact .slNil _ _ _ _ (fun _ => rfl)
  · by_cases hne : xs = []
    · subst hne
      rw [h5]
      exact .slNil _ _ _ _ (fun e => by simp at e)
    · rw [h5] at ho hrow ⊢
      have hfl : (flat xs).length = xs.length * sz := flat_length hsz
      refine .sl _ true xs ⟨g, 0, none⟩ cap sz (fun j => inner.getD j undef) hne h6 rfl hsz hcell (fun j hj => ⟨?_, ?_⟩) (fun j hj => ?_)
      · simp only [Nat.zero_add]; exact hrow g j rfl hj
      · rw [add_eq rfl]
        simp only [Nat.zero_add]
        rw [World.ownsRow.cellAt ho j hj]
        have : j < inner.length := by rw [ho.1]; exact hj
        simp [List.getD_eq_getElem?_getD, this]
      · exact (hr j hj).mono (fun fl b o hs => ⟨.inl rfl, hS fl b o hs⟩) (fun _ _ _ _ => rfl)

/-- What is handed on is read: each name is replaced by what may be read of it. -/
theorem RV.mapRO {S : Cells} {f : Nat → Bool → Nat → Nat → List AV → AV} {g : Nat → Nat → AV} {h : Nat → Bool → Nat → Nat → List AV → Nat → Nat → AV} {z : Unit → AV}
    (hro : ∀ a v, RO w G.S a v → RO w S a v)
    (hown : ∀ id fz e sz xs, RowOK w G id fz e sz xs → RO w S (f id fz e sz xs) (G.ρ id))
    (hptr : ∀ id off b, G.μ id = some b → RO w S (g id off) (.pointer (some ⟨b, off, none⟩)))
    (heptr : ∀ id fz e sz xs i off ad n c, RowOK w G id fz e sz xs → G.ρ id = .slice (some ad) n c → RO w S (h id fz e sz xs i off) (.pointer (some (ad.add (i * sz + off)))))
    (hz : RO w S (z ()) (.slice none 0 0))
    {a : AV} {v : Value} (hr : RV w G a v) : RO w S (a.mapO f g h z) v := by
  induction hr with
  | ro hr => rw [hr.mapO_eq]; exact hro _ _ hr
  | nils => exact hz
  | own id fz e sz xs hk => exact hown _ _ _ _ _ hk
  | ptr id off b hk => exact hptr _ _ _ hk
  | eptr id fz e sz xs i off ad n c hk hρ => exact heptr _ _ _ _ _ _ _ _ _ _ hk hρ
  | agg cs vs hl hr ih => rw [AV.mapO, AV.mapOs_eq]; exact .agg _ _ _ (by simpa using hl) fun j hj => by rw [getD_map_lt]; exact ih j (by simpa using hj)
  | tup cs vs hl hr ih => rw [AV.mapO, AV.mapOs_eq]; exact .tup _ _ _ (by simpa using hl) fun j hj => by rw [getD_map_lt]; exact ih j (by simpa using hj)
  | clo n cs vs hl hr ih => rw [AV.mapO, AV.mapOs_eq]; exact .clo _ _ _ _ (by simpa using hl) fun j hj => by rw [getD_map_lt]; exact ih j (by simpa using hj)

theorem RowOK.inR {id : Nat} {fz : Bool} {e sz : Nat} {xs : List AV} (h : RowOK w G id fz e sz xs) {Rw Bs : Nat → Prop} (hR : Rw id) (g o : Nat) (hg : (G.ρ id).ownBlock = some g) (ho : o < xs.length * sz) : G.more w Rw Bs true g o :=
  .inr ⟨rfl, .inl ⟨id, hR, h.1, hg, by rw [h.cells]; exact ho⟩⟩

theorem RV.rows_al {v : AV} {x : Value} (h : RV w G v x) : ∀ id ∈ v.rows, ∃ fz e sz xs, RowOK w G id fz e sz xs := by
  have hss : ∀ (cs : List AV) (id : Nat), id ∈ AV.rowss cs → ∃ j, ∃ h : j < cs.length, id ∈ cs[j].rows := by
    intro cs
    induction cs with
    | nil => intro id h; simp [AV.rowss] at h
    | cons c cs ih =>
      intro id h
      simp only [AV.rowss, List.mem_append] at h
      rcases h with h | h
      · exact ⟨0, by simp, h⟩
      · obtain ⟨j, hj, hm⟩ := ih id h
        exact ⟨j + 1, by simpa using hj, by simpa using hm⟩
  have hro : ∀ {S : Cells} {a : AV} {v : Value}, RO w S a v → a.rows = [] := by
    intro S a v h
    have hss' : ∀ (cs : List AV), (∀ j (h : j < cs.length), cs[j].rows = []) → AV.rowss cs = [] := by
      intro cs hc
      apply List.eq_nil_iff_forall_not_mem.2
      intro id hid
      obtain ⟨j, hj, hm⟩ := hss cs id hid
      rw [hc j hj] at hm
      simp at hm
    induction h with
    | agg S cs vs hl hr ih => simp only [AV.rows]; exact hss' cs ih
    | tup S cs vs hl hr ih => simp only [AV.rows]; exact hss' cs ih
    | clo S f cs vs hl hr ih => simp only [AV.rows]; exact hss' cs ih
    | _ => rfl
  induction h with
  | ro h => intro id hid; rw [hro h] at hid; simp at hid
  | nils => intro id hid; simp [AV.rows] at hid
  | own id fz e sz xs h => intro i hi; (obtain rfl : i = id := by simpa [AV.rows] using hi); exact ⟨_, _, _, _, h⟩
  | ptr => intro id hid; simp [AV.rows] at hid
  | eptr id fz e sz xs i off ad n c h hρ => intro i hi; (obtain rfl : i = id := by simpa [AV.rows] using hi); exact ⟨_, _, _, _, h⟩
  | agg cs vs hl hr ih => intro id hid; simp only [AV.rows] at hid; obtain ⟨j, hj, hm⟩ := hss cs id hid; exact ih j hj id hm
  | tup cs vs hl hr ih => intro id hid; simp only [AV.rows] at hid; obtain ⟨j, hj, hm⟩ := hss cs id hid; exact ih j hj id hm
  | clo n cs vs hl hr ih => intro id hid; simp only [AV.rows] at hid; obtain ⟨j, hj, hm⟩ := hss cs id hid; exact ih j hj id hm

/-! ### rows that are read from now on -/
noncomputable def Gh.freeze (G : Gh) (w : World) (ids : List Nat) : Gh := { G with S := G.more w (fun i => i ∈ ids) (fun _ => False), lim := fun i => if i ∈ ids then rowCells w G i else G.lim i }

theorem St.freeze_get (st : St) (ids : List Nat) (i : Nat) : (st.freeze ids).get i = st.get i ∧ ids = [] ∨ (st.freeze ids).get i = (st.get i).mapO (fun id fz e sz xs => .own id (fz || decide (id ∈ ids)) e sz xs) .ptr (fun id fz e sz xs i off => .eptr id (fz || decide (id ∈ ids)) e sz xs i off) (fun _ => .nils) := by
  cases ids with
  | nil => exact .inl ⟨rfl, rfl⟩
  | cons x r => exact .inr (St.get_mapO _ _ _ _ _)
theorem St.freeze_box (st : St) (ids : List Nat) (i : Nat) : (st.freeze ids).box i = st.box i ∧ ids = [] ∨ (st.freeze ids).box i = (st.box i).map fun cs => cs.map (AV.mapO (fun id fz e sz xs => .own id (fz || decide (id ∈ ids)) e sz xs) .ptr (fun id fz e sz xs i off => .eptr id (fz || decide (id ∈ ids)) e sz xs i off) (fun _ => .nils)) := by
  cases ids with
  | nil => exact .inl ⟨rfl, rfl⟩
  | cons x r => exact .inr (St.box_mapO _ _ _ _ _)

theorem freeze_rv {ids : List Nat} {v : AV} {x : Value} (h : RV w G v x) : RV w (G.freeze w ids) (v.mapO (fun id fz e sz xs => .own id (fz || decide (id ∈ ids)) e sz xs) .ptr (fun id fz e sz xs i off => .eptr id (fz || decide (id ∈ ids)) e sz xs i off) (fun _ => .nils)) x := by
  have hro : ∀ a v, RO w G.S a v → RO w (G.freeze w ids).S a v := fun a v h => h.mono (fun _ _ _ hs => .inl hs) (fun _ _ _ _ => rfl)
  have hrow : ∀ id fz e sz xs, RowOK w G id fz e sz xs → RowOK w (G.freeze w ids) id (fz || decide (id ∈ ids)) e sz xs := by
    intro id fz e sz xs hk
    have hcells := hk.cells
    obtain ⟨hal, hlim, hsz, hcell, inner, ho, hr⟩ := hk
    refine ⟨hal, ?_, hsz, hcell, inner, ho, fun j hj => hro _ _ (hr j hj)⟩
    simp only [Gh.freeze]
    by_cases hid : id ∈ ids
    · simp [hid, hcells]
    · simpa [hid] using hlim
  exact RV.map hro (fun id fz e sz xs hk => .own (G := G.freeze w ids) _ _ _ _ _ (hrow _ _ _ _ _ hk)) (fun id off b hb => .ptr _ _ _ hb)
    (fun id fz e sz xs i off ad n c hk hρ => .eptr (G := G.freeze w ids) _ _ _ _ _ _ _ _ n c (hrow _ _ _ _ _ hk) hρ) .nils h

theorem Inv.freeze (hi : Inv w G X) {ids : List Nat} (hids : ∀ id ∈ ids, ∃ fz e sz xs, RowOK w G id fz e sz xs) : Inv w (G.freeze w ids) X := by
  have hS : ∀ {fl b o}, (G.freeze w ids).S fl b o → G.S fl b o ∨ (fl = true ∧ ∃ id ∈ ids, G.al id ∧ (G.ρ id).ownBlock = some b ∧ o < rowCells w G id) := by
    intro fl b o hs
    rcases hs with hs | ⟨h1, h2 | ⟨_, h2, _⟩⟩
    · exact .inl hs
    · exact .inr ⟨h1, h2⟩
    · exact h2.elim
  have hle : ∀ id ∈ ids, G.lim id ≤ rowCells w G id := by
    intro id hid
    obtain ⟨fz, e, sz, xs, hk⟩ := hids id hid
    rw [hk.cells]
    have := hk.2.1
    split at this <;> omega
  exact {
    nb := hi.nb
    row := hi.row
    box := hi.box
    rows := hi.rows
    boxes := hi.boxes
    rowBox := hi.rowBox
    lt := fun fl b o hs => by
      rcases hS hs with hs | ⟨_, id, _, hal, hg, _⟩
      · exact hi.lt fl b o hs
      · exact (hi.row id b hal hg).2.1
    old := fun b o hs => by
      rcases hS hs with hs | ⟨h, _⟩
      · exact hi.old b o hs
      · simp at h
    new := fun b o hs => by
      rcases hS hs with hs | ⟨_, id, hid, hal, hg, _⟩
      · exact hi.new b o hs
      · refine ⟨(hi.row id b hal hg).2.2, ?_⟩
        obtain ⟨fz, e, sz, xs, hk⟩ := hids id hid
        obtain ⟨_, _, _, _, inner, ho, _⟩ := hk
        rcases ho.2 with ⟨h5, h6⟩ | ⟨g, cap, cur, h5, h0, h7, _⟩
        · rw [h5] at hg; simp [Value.ownBlock] at hg
        · rw [h5] at hg
          obtain rfl : g = b := by simpa [Value.ownBlock] using hg
          exact ⟨cur, e, h7⟩
    sBox := fun fl b o i hs hb => by
      rcases hS hs with hs | ⟨_, id, _, hal, hg, _⟩
      · exact hi.sBox fl b o i hs hb
      · exact hi.rowBox id i b hal hg hb
    sRow := fun fl b o i hs hal hg => by
      have hlim : (G.freeze w ids).lim i = if i ∈ ids then rowCells w G i else G.lim i := rfl
      rw [hlim]
      rcases hS hs with hs | ⟨_, id, hid, hal', hg', ho⟩
      · have h1 := hi.sRow fl b o i hs hal hg
        split
        · rename_i hm; exact Nat.lt_of_lt_of_le h1 (hle i hm)
        · exact h1
      · have : id = i := Classical.byContradiction fun hne => hi.rows id i b hal' hal hne hg' hg
        subst this
        rw [if_pos hid]
        exact ho }

theorem freeze_cell (ids : List Nat) (y : AV) (h : y.isCell = true ∨ y = .undef) :
    (y.mapO (fun id fz e sz xs => .own id (fz || decide (id ∈ ids)) e sz xs) .ptr (fun id fz e sz xs i off => .eptr id (fz || decide (id ∈ ids)) e sz xs i off) (fun _ => .nils)).isCell = true ∨
      (y.mapO (fun id fz e sz xs => .own id (fz || decide (id ∈ ids)) e sz xs) .ptr (fun id fz e sz xs i off => .eptr id (fz || decide (id ∈ ids)) e sz xs i off) (fun _ => .nils)) = .undef := by
  cases y with
  | undef => exact .inr rfl
  | agg cs => rcases h with h | h <;> simp [AV.isCell] at h
  | tup cs => rcases h with h | h <;> simp [AV.isCell] at h
  | _ => exact .inl rfl

theorem Rel.freeze (h : Rel st a w G X F) {ids : List Nat} (hids : ∀ id ∈ ids, ∃ fz e sz xs, RowOK w G id fz e sz xs) :
    Rel (st.freeze ids) a w (G.freeze w ids) X F ∧ Step false w w G (G.freeze w ids) X := by
  have hnt : (st.freeze ids).nt = st.nt := by cases ids <;> rfl
  have hnil : ids = [] → ∀ {v : AV} {x : Value}, RV w G v x → RV w (G.freeze w ids) v x := by
    intro e v x hv
    refine Keep.rv (w := w) (w' := w) (G := G) (G' := G.freeze w ids) ⟨fun _ _ _ hs => Or.inl hs, fun _ _ _ _ => rfl, fun id _ hal => ⟨hal, rfl, by simp [Gh.freeze, e], fun _ _ => rfl⟩, fun _ _ hb => hb⟩ hv
  refine ⟨⟨by rw [hnt]; exact h.size, h.defers, fun i => ?_, fun id cs hc => ?_, h.inv.freeze hids, h.free⟩, ?_⟩
  · rcases st.freeze_get ids i with ⟨e, e2⟩ | e
    · rw [e]; exact hnil e2 (h.slot i)
    · rw [e]; exact freeze_rv (h.slot i)
  · rcases st.freeze_box ids id with ⟨e, e2⟩ | e
    · rw [e] at hc
      obtain ⟨b, vs, T, h1, h2, h3, h4, h5, h6⟩ := h.box id cs hc
      exact ⟨b, vs, T, h1, h2, h3, h4, h5, fun j hj => hnil e2 (h6 j hj)⟩
    · rw [e] at hc
      obtain ⟨cs0, hc0, rfl⟩ := Option.map_eq_some_iff.1 hc
      obtain ⟨b, vs, T, h1, h2, h3, h4, h5, h6⟩ := h.box id cs0 hc0
      refine ⟨b, vs, T, h1, h2, by simpa using h3, fun y hy => ?_, h5, fun j hj => ?_⟩
      · obtain ⟨y0, hy0, rfl⟩ := List.mem_map.1 hy
        exact freeze_cell ids y0 (h4 y0 hy0)
      · rw [List.getElem_map]
        exact freeze_rv (h6 j (by simpa using hj))
  · refine ⟨rfl, rfl, rfl, Nat.le_refl _, fun _ _ _ => rfl, rfl, fun _ _ _ _ hs => .inl hs, fun _ _ _ _ _ => rfl, fun fl b o hs => ?_⟩
    rcases hs with hs | ⟨h1, ⟨id, _, hal, hg, _⟩ | ⟨_, h2, _⟩⟩
    · exact .inl hs
    · exact .inr ⟨h1, .inl (h.inv.row id b hal hg).1⟩
    · exact h2.elim

/-- A value that goes into a row. -/
theorem RV.shutV {v : AV} {x : Value} (h : RV w G v x) {ids : List Nat} (hids : ∀ id ∈ v.rows, id ∈ ids) : RO w (G.freeze w ids).S v.shutV x := by
  have hS : ∀ fl b o, G.S fl b o → (G.freeze w ids).S fl b o := fun _ _ _ hs => Or.inl hs
  have hss : ∀ (cs : List AV) (j : Nat) (h : j < cs.length), ∀ id ∈ cs[j].rows, id ∈ AV.rowss cs := by
    intro cs
    induction cs with
    | nil => intro j hj; simp at hj
    | cons c cs ih =>
      intro j hj id hm
      simp only [AV.rowss, List.mem_append]
      cases j with
      | zero => exact .inl (by simpa using hm)
      | succ j => exact .inr (ih j (by simpa using hj) id (by simpa using hm))
  induction h with
  | ro h => rw [AV.shutV, h.mapO_eq]; exact h.mono hS (fun _ _ _ _ => rfl)
  | nils => exact .slNil _ _ _ _ (fun _ => rfl)
  | own id fz e sz xs hk => exact hk.sl hS (fun g o hg ho => hk.inR (hids id (by simp [AV.rows])) g o hg ho)
  | ptr id off b hk => exact .undef _ _
  | eptr => exact .undef _ _
  | agg cs vs hl hr ih => rw [AV.shutV, AV.mapO, AV.mapOs_eq]; exact .agg _ _ _ (by simpa using hl) fun j hj => by rw [getD_map_lt]; exact ih j (by simpa using hj) (fun id hm => hids id (hss cs j _ id hm))
  | tup cs vs hl hr ih => rw [AV.shutV, AV.mapO, AV.mapOs_eq]; exact .tup _ _ _ (by simpa using hl) fun j hj => by rw [getD_map_lt]; exact ih j (by simpa using hj) (fun id hm => hids id (hss cs j _ id hm))
  | clo n cs vs hl hr ih => rw [AV.shutV, AV.mapO, AV.mapOs_eq]; exact .clo _ _ _ _ (by simpa using hl) fun j hj => by rw [getD_map_lt]; exact ih j (by simpa using hj) (fun id hm => hids id (hss cs j _ id hm))
end
end Go.Proofs.Ytgckhjcfcandmaa.Flat
