/-
Names are given anew: what is kept at a loop's head, and what is handed back.
-/
import Derived.Test.YtgckhjcfcandmaaFlatBA
set_option linter.unusedVariables false
set_option linter.unusedSimpArgs false
namespace Go.Proofs.Ytgckhjcfcandmaa.Flat
section
variable {w : World} {G : Gh} {X : Nat → Prop}

theorem idx_get {g : List Nat} {id : Nat} (h : id ∈ g) : g[idx g id]? = some id := by
  induction g with
  | nil => simp at h
  | cons j r ih =>
    simp only [idx]
    split
    · rename_i e; subst e; simp
    · rename_i e
      rw [List.getElem?_cons_succ]
      exact ih ((List.mem_cons.1 h).resolve_left e)
theorem nodupB_get {g : List Nat} (h : nodupB g = true) : ∀ (i j : Nat) (x : Nat), g[i]? = some x → g[j]? = some x → i = j := by
  induction g with
  | nil => intro i j x hi; simp at hi
  | cons y r ih =>
    simp only [nodupB, Bool.and_eq_true, Bool.not_eq_true', decide_eq_false_iff_not] at h
    intro i j x hi hj
    cases i with
    | zero =>
      cases j with
      | zero => rfl
      | succ j =>
        simp only [List.getElem?_cons_zero, Option.some.injEq] at hi
        subst hi
        rw [List.getElem?_cons_succ] at hj
        exact absurd (List.mem_of_getElem? hj) h.1
    | succ i =>
      cases j with
      | zero =>
        simp only [List.getElem?_cons_zero, Option.some.injEq] at hj
        subst hj
        rw [List.getElem?_cons_succ] at hi
        exact absurd (List.mem_of_getElem? hi) h.1
      | succ j =>
        rw [List.getElem?_cons_succ] at hi hj
        rw [ih h.2 i j x hi hj]

/-- Row i is what g[i] was, variable i what b[i] was. -/
def Gh.ren (G : Gh) (g b : List Nat) : Gh :=
  { nb := G.nb, S := G.S, μ := fun i => (b[i]?).bind G.μ, ρ := fun i => G.ρ (g.getD i 0), lim := fun i => G.lim (g.getD i 0), al := fun i => ∃ id, g[i]? = some id ∧ G.al id }

theorem getD_of {g : List Nat} {i id : Nat} (h : g[i]? = some id) : g.getD i 0 = id := by rw [List.getD_eq_getElem?_getD, h]; rfl

theorem Inv.ren (hi : Inv w G X) {g b : List Nat} (hg : nodupB g = true) (hb : nodupB b = true) : Inv w (G.ren g b) X where
  nb := hi.nb
  row := fun i k ⟨id, h1, h2⟩ hk => by simp only [Gh.ren, getD_of h1] at hk; exact hi.row id k h2 hk
  box := fun i k hk => by
    obtain ⟨id, h1, h2⟩ := Option.bind_eq_some_iff.1 hk
    exact hi.box id k h2
  rows := fun i j k ⟨id, h1, h2⟩ ⟨jd, h3, h4⟩ hne hk hk' => by
    simp only [Gh.ren, getD_of h1] at hk
    simp only [Gh.ren, getD_of h3] at hk'
    exact hi.rows id jd k h2 h4 (fun e => hne (nodupB_get hg i j jd (by rw [h1, e]) h3)) hk hk'
  boxes := fun i j k h1 h2 => by
    obtain ⟨id, h3, h4⟩ := Option.bind_eq_some_iff.1 h1
    obtain ⟨jd, h5, h6⟩ := Option.bind_eq_some_iff.1 h2
    have := hi.boxes id jd k h4 h6
    subst this
    exact nodupB_get hb i j id h3 h5
  rowBox := fun i j k ⟨id, h1, h2⟩ hk h3 => by
    simp only [Gh.ren, getD_of h1] at hk
    obtain ⟨jd, h5, h6⟩ := Option.bind_eq_some_iff.1 h3
    exact hi.rowBox id jd k h2 hk h6
  lt := hi.lt
  old := hi.old
  new := hi.new
  sBox := fun fl k o i hs h1 => by
    obtain ⟨id, h3, h4⟩ := Option.bind_eq_some_iff.1 h1
    exact hi.sBox fl k o id hs h4
  sRow := fun fl k o i hs ⟨id, h1, h2⟩ hk => by
    simp only [Gh.ren, getD_of h1] at hk ⊢
    exact hi.sRow fl k o id hs h2 hk

theorem rows_sub {cs : List AV} (j : Nat) (h : j < cs.length) : ∀ id ∈ cs[j].rows, id ∈ AV.rowss cs := by
  induction cs generalizing j with
  | nil => simp at h
  | cons c cs ih =>
    intro id hm
    simp only [AV.rowss, List.mem_append]
    cases j with
    | zero => exact .inl (by simpa using hm)
    | succ j => exact .inr (ih j (by simpa using h) id (by simpa using hm))

theorem RV.ren {v : AV} {x : Value} (h : RV w G v x) {g b : List Nat} {p : Nat → Nat → AV} (hp : ∀ id off k, G.μ id = some k → RV w (G.ren g b) (p id off) (.pointer (some ⟨k, off, none⟩))) (hr : ∀ id ∈ v.rows, id ∈ g) :
    RV w (G.ren g b) (v.mapO (fun id fz e sz xs => .own (idx g id) fz e sz xs) p (fun _ _ _ _ _ _ _ => .undef) (fun _ => .nils)) x := by
  induction h with
  | ro h => rw [h.mapO_eq]; exact .ro h
  | nils => exact .nils
  | own id fz e sz xs hk =>
    have hid := idx_get (hr id (by simp [AV.rows]))
    obtain ⟨h1, h2, h3, h4, inner, ho, h5⟩ := hk
    have e1 : (G.ren g b).ρ (idx g id) = G.ρ id := by simp only [Gh.ren, getD_of hid]
    have e2 : (G.ren g b).lim (idx g id) = G.lim id := by simp only [Gh.ren, getD_of hid]
    rw [← e1]
    exact .own _ _ _ _ _ ⟨⟨id, hid, h1⟩, by rw [e2]; exact h2, h3, h4, inner, by rw [e1]; exact ho, h5⟩
  | ptr id off k hk => exact hp id off k hk
  | eptr => exact rvUndef _
  | agg cs vs hl _ ih =>
    rw [AV.mapO, AV.mapOs_eq]
    exact .agg _ _ (by simpa using hl) fun j hj => by
      rw [getD_map_lt]
      exact ih j (by simpa using hj) fun id hm => hr id (rows_sub j (by simpa using hj) id hm)
  | tup cs vs hl _ ih =>
    rw [AV.mapO, AV.mapOs_eq]
    exact .tup _ _ (by simpa using hl) fun j hj => by
      rw [getD_map_lt]
      exact ih j (by simpa using hj) fun id hm => hr id (rows_sub j (by simpa using hj) id hm)
  | clo n cs vs hl _ ih =>
    rw [AV.mapO, AV.mapOs_eq]
    exact .clo _ _ _ (by simpa using hl) fun j hj => by
      rw [getD_map_lt]
      exact ih j (by simpa using hj) fun id hm => hr id (rows_sub j (by simpa using hj) id hm)

theorem Step.ren (k : Bool) (g b : List Nat) : Step k w w G (G.ren g b) X :=
  ⟨rfl, rfl, rfl, Nat.le_refl _, fun _ _ _ => rfl, rfl, fun _ _ _ _ h => h, fun _ _ _ _ _ => rfl, fun _ _ _ h => .inl h⟩

theorem look_numbered {α : Type} (l : List α) (m i : Nat) : look i (numbered m l) = if m ≤ i then l[i - m]? else none := by
  induction l generalizing m with
  | nil => simp [numbered, look]
  | cons x r ih =>
    simp only [numbered, look_cons, ih]
    by_cases h : i = m
    · subst h; simp
    · rw [if_neg h]
      by_cases h2 : m ≤ i
      · rw [if_pos (by omega : m + 1 ≤ i), if_pos h2]
        have : i - m = (i - (m + 1)) + 1 := by omega
        rw [this, List.getElem?_cons_succ]
      · rw [if_neg (by omega), if_neg h2]

theorem look_keep (F : Nat → AV) (keep : List Nat) (i : Nat) : look i (keep.map fun j => (j, F j)) = if i ∈ keep then some (F i) else none := by
  induction keep with
  | nil => simp [look]
  | cons j r ih =>
    simp only [List.map_cons, look_cons, ih, List.mem_cons]
    by_cases h : i = j
    · subst h; simp
    · simp [h]

variable {st st' : St} {a : Act} {F : Nat → Prop}

theorem renameB_cell {g b : List Nat} {y : AV} (h : y.isCell = true ∨ y = .undef) : (renameB g b y).isCell = true ∨ renameB g b y = .undef := by
  unfold renameB
  cases y with
  | undef => exact .inr rfl
  | agg cs => rcases h with h | h <;> simp [AV.isCell] at h
  | tup cs => rcases h with h | h <;> simp [AV.isCell] at h
  | eptr => exact .inr rfl
  | ptr id off =>
    simp only [AV.mapO]
    split
    · exact .inl rfl
    · exact .inr rfl
  | _ => exact .inl rfl

theorem gc_ok {np : Nat} {keep : List Nat} (h : Rel st a w G X F) (he : gc np keep st = some st') : ∃ G', Step false w w G G' X ∧ Rel st' a w G' X (fun i => st'.nx ≤ i) := by
  unfold gc at he
  simp only at he
  generalize hb : keptBoxes st np keep = b at he
  generalize hg : keptRows st b keep = g at he
  split at he
  · rename_i hc
    obtain ⟨h1, h2, h3, _, h5⟩ := hc
    obtain rfl := Option.some.inj he
    have hp : ∀ id off k, G.μ id = some k → RV w (G.ren g b) (if id ∈ b then .ptr (idx b id) off else .undef) (.pointer (some ⟨k, off, none⟩)) := by
      intro id off k hk
      split
      · rename_i hm
        exact .ptr _ _ _ (by simp only [Gh.ren]; rw [idx_get hm]; exact hk)
      · exact rvUndef _
    have hsub : ∀ v, (v ∈ keep.map st.get ∨ ∃ id ∈ b, v ∈ (st.box id).getD []) → ∀ r ∈ v.rows, r ∈ g := by
      intro v hv r hr
      have : v ∈ keep.map st.get ++ b.flatMap fun id => (st.box id).getD [] := by
        rcases hv with hv | ⟨id, h6, h7⟩
        · exact List.mem_append_left _ hv
        · exact List.mem_append_right _ (List.mem_flatMap.2 ⟨id, h6, h7⟩)
      exact of_decide_eq_true (List.all_eq_true.1 (List.all_eq_true.1 h5 v this) r hr)
    refine ⟨G.ren g b, Step.ren _ _ _, h.size, h.defers, fun i => ?_, fun i cs hcs => ?_, h.inv.ren h2 h1, fun i hi => ?_⟩
    · show RV w _ ((look i (keep.map fun j => (j, renameB g b (st.get j)))).getD .undef) _
      rw [look_keep (fun j => renameB g b (st.get j))]
      by_cases hm : i ∈ keep
      · rw [if_pos hm]
        exact (h.slot i).ren hp (hsub _ (.inl (List.mem_map.2 ⟨i, hm, rfl⟩)))
      · rw [if_neg hm]; exact rvUndef _
    · simp only [St.box, look_numbered, Nat.zero_le, if_true, Nat.sub_zero, List.getElem?_map] at hcs
      obtain ⟨id, hid, rfl⟩ := Option.map_eq_some_iff.1 hcs
      have hbm := List.mem_of_getElem? hid
      obtain ⟨ds, hds⟩ := Option.isSome_iff_exists.1 (List.all_eq_true.1 h3 id hbm)
      obtain ⟨k, vs, T, h6, h7, h8, h9, h10, h11⟩ := h.box id ds hds
      have hds' : look id st.bx = some ds := hds
      simp only [hds', Option.getD_some]
      refine ⟨k, vs, T, by simp only [Gh.ren, hid]; exact h6, h7, by simpa using h8, fun y hy => ?_, h10, fun j hj => ?_⟩
      · obtain ⟨y0, hy0, rfl⟩ := List.mem_map.1 hy
        exact renameB_cell (h9 y0 hy0)
      · rw [List.getElem_map]
        exact (h11 j (by simpa using hj)).ren hp (hsub _ (.inr ⟨id, hbm, by rw [hds]; exact List.getElem_mem _⟩))
    · have hi' : g.length + b.length ≤ i := hi
      refine ⟨?_, ?_⟩
      · rintro ⟨id, h6, _⟩
        rw [List.getElem?_eq_none (by omega)] at h6
        simp at h6
      · simp only [Gh.ren]
        rw [List.getElem?_eq_none (by omega)]
        rfl
  · simp at he
end
end Go.Proofs.Ytgckhjcfcandmaa.Flat
