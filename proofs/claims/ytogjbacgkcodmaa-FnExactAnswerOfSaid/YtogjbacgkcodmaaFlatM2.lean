/-
The state: what stands in the slots and in the variables; and what changes of the world leave as it is.
-/
import Derived.Test.YtogjbacgkcodmaaFlatM1
import Derived.Maps.AppendAt
set_option linter.unusedVariables false
set_option linter.unusedSimpArgs false
namespace Go.Proofs.Ytogjbacgkcodmaa.Flat

/-! ### look -/
theorem look_cons {α : Type} (i j : Nat) (v : α) (r : List (Nat × α)) : look i ((j, v) :: r) = if i = j then some v else look i r := rfl
theorem look_map {α β : Type} (F : α → β) (i : Nat) (l : List (Nat × α)) : look i (l.map fun p => (p.1, F p.2)) = (look i l).map F := by
  induction l with
  | nil => rfl
  | cons p r ih =>
    obtain ⟨j, v⟩ := p
    simp only [List.map_cons, look_cons]
    split
    · rfl
    · exact ih
theorem St.get_mapO (st : St) (f : Nat → Bool → Nat → Nat → List AV → AV) (g : Nat → Nat → AV) (h : Nat → Bool → Nat → Nat → List AV → Nat → Nat → AV) (i : Nat) :
    (st.mapO f g h).get i = (st.get i).mapO f g h (fun _ => .nils) := by
  unfold St.get St.mapO
  rw [look_map (fun v => AV.mapO f g h (fun _ => .nils) v)]
  cases look i st.sl <;> rfl
theorem St.box_mapO (st : St) (f : Nat → Bool → Nat → Nat → List AV → AV) (g : Nat → Nat → AV) (h : Nat → Bool → Nat → Nat → List AV → Nat → Nat → AV) (i : Nat) :
    (st.mapO f g h).box i = (st.box i).map fun cs => cs.map (AV.mapO f g h (fun _ => .nils)) := by
  unfold St.box St.mapO
  rw [look_map (fun cs => AV.mapOs f g h (fun _ => .nils) cs)]
  cases look i st.bx with
  | none => rfl
  | some cs => simp only [Option.map_some, AV.mapOs_eq]

/-! ### what a step leaves as it is -/
structure Keep (w w' : World) (G G' : Gh) (N : Nat → Prop) : Prop where
  S : ∀ fl b o, G.S fl b o → G'.S fl b o
  cell : ∀ fl b o, G.S fl b o → w'.cell? ⟨b, o, none⟩ = w.cell? ⟨b, o, none⟩
  row : ∀ id, ¬ N id → G.al id → G'.al id ∧ G'.ρ id = G.ρ id ∧ G'.lim id = G.lim id ∧ ∀ g, (G.ρ id).ownBlock = some g → w'.heap[g]? = w.heap[g]?
  box : ∀ id b, G.μ id = some b → G'.μ id = some b

section
variable {w w' : World} {G G' : Gh} {N : Nat → Prop}

theorem ownsRow_move {base e size n : Nat} {v : Value} {xs : List Value} (h : w.ownsRow base e size v n xs) (hm : ∀ k, v.ownBlock = some k → w'.heap[k]? = w.heap[k]?) : w'.ownsRow base e size v n xs := by
  obtain ⟨h1, h2⟩ := h
  refine ⟨h1, ?_⟩
  rcases h2 with h2 | ⟨g, cap, cur, rfl, hg, hh, r⟩
  · exact .inl h2
  · exact .inr ⟨g, cap, cur, rfl, hg, (hm g (by simp [Value.ownBlock])).trans hh, r⟩

theorem Keep.ro (hk : Keep w w' G G' N) {a : AV} {v : Value} (h : RO w G.S a v) : RO w' G'.S a v := h.mono hk.S hk.cell
theorem Keep.rowOK (hk : Keep w w' G G' N) {id : Nat} {fz : Bool} {e sz : Nat} {xs : List AV} (hn : ¬ N id) (h : RowOK w G id fz e sz xs) : RowOK w' G' id fz e sz xs := by
  obtain ⟨hal, hlim, hsz, hcell, inner, ho, hr⟩ := h
  obtain ⟨h1, h2, h3, h4⟩ := hk.row id hn hal
  refine ⟨h1, by rw [h3]; exact hlim, hsz, hcell, inner, ?_, fun j hj => hk.ro (hr j hj)⟩
  rw [h2]
  exact ownsRow_move ho h4
theorem Keep.rv (hk : Keep w w' G G' (fun _ => False)) {a : AV} {v : Value} (h : RV w G a v) : RV w' G' a v := by
  induction h with
  | ro h => exact .ro (hk.ro h)
  | nils => exact .nils
  | own id fz e sz xs h =>
    have := (hk.row id (fun h => h) h.1).2.1
    rw [← this]
    exact .own _ _ _ _ _ (hk.rowOK (fun h => h) h)
  | ptr id off b h => exact .ptr _ _ _ (hk.box _ _ h)
  | eptr id fz e sz xs i off ad n c h hρ =>
    have := (hk.row id (fun h => h) h.1).2.1
    exact .eptr _ _ _ _ _ _ _ _ n c (hk.rowOK (fun h => h) h) (by rw [this]; exact hρ)
  | agg cs vs hl hr ih => exact .agg _ _ hl ih
  | tup cs vs hl hr ih => exact .tup _ _ hl ih
  | clo f cs vs hl hr ih => exact .clo _ _ _ hl ih
/-- The rows in ids are named no more. -/
theorem Keep.scrub {ids : List Nat} (hk : Keep w w' G G' (fun id => id ∈ ids)) {a : AV} {v : Value} (h : RV w G a v) :
    RV w' G' (a.mapO (fun id fz e sz xs => if id ∈ ids then .undef else .own id fz e sz xs) .ptr (fun id fz e sz xs i off => if id ∈ ids then .undef else .eptr id fz e sz xs i off) (fun _ => .nils)) v := by
  refine RV.map (fun a v h => hk.ro h) ?_ ?_ ?_ .nils h
  · intro id fz e sz xs h
    split
    · exact rvUndef _
    · rename_i hn
      have := (hk.row id hn h.1).2.1
      rw [← this]
      exact .own _ _ _ _ _ (hk.rowOK hn h)
  · intro id off b h
    exact .ptr _ _ _ (hk.box _ _ h)
  · intro id fz e sz xs i off ad n c h hρ
    split
    · exact rvUndef _
    · rename_i hn
      have := (hk.row id hn h.1).2.1
      exact .eptr _ _ _ _ _ _ _ _ n c (hk.rowOK hn h) (by rw [this]; exact hρ)
end

/-- The state stands for the frame and the world. F: names that are not in use. -/
structure Rel (st : St) (a : Act) (w : World) (G : Gh) (X F : Nat → Prop) : Prop where
  size : a.tmps.size = st.nt
  defers : a.defers = []
  slot : ∀ i, RV w G (st.get i) (a.tmps.getD i undef)
  box : ∀ id cs, st.box id = some cs → BoxOK w G id cs
  inv : Inv w G X
  free : ∀ id, F id → ¬ G.al id ∧ G.μ id = none

/-- What a step does to the world, seen from outside. k: may it write over what was made before? -/
structure Step (k : Bool) (w w' : World) (G G' : Gh) (X : Nat → Prop) : Prop where
  os : w'.os = w.os
  tape : w'.tape = w.tape
  output : w'.output = w.output
  size : w.heap.size ≤ w'.heap.size
  block : ∀ b, b < w.heap.size → ¬ X b → w'.heap[b]? = w.heap[b]?
  nb : G'.nb = G.nb
  S : ∀ fl b o, k = false ∨ fl = false → G.S fl b o → G'.S fl b o
  cell : ∀ fl b o, k = false ∨ fl = false → G.S fl b o → w'.cell? ⟨b, o, none⟩ = w.cell? ⟨b, o, none⟩
  newS : ∀ fl b o, G'.S fl b o → G.S fl b o ∨ (fl = true ∧ (X b ∨ w.heap.size ≤ b))

theorem Step.refl (k : Bool) (w : World) (G : Gh) (X : Nat → Prop) : Step k w w G G X := ⟨rfl, rfl, rfl, Nat.le_refl _, fun _ _ _ => rfl, rfl, fun _ _ _ _ h => h, fun _ _ _ _ _ => rfl, fun _ _ _ h => .inl h⟩
theorem Step.trans {k : Bool} {w w' w'' : World} {G G' G'' : Gh} {X : Nat → Prop} (h : Step k w w' G G' X) (h' : Step k w' w'' G' G'' X) : Step k w w'' G G'' X where
  os := h'.os.trans h.os
  tape := h'.tape.trans h.tape
  output := h'.output.trans h.output
  size := Nat.le_trans h.size h'.size
  block := fun b hb hx => (h'.block b (Nat.lt_of_lt_of_le hb h.size) hx).trans (h.block b hb hx)
  nb := h'.nb.trans h.nb
  S := fun fl b o hk hs => h'.S fl b o hk (h.S fl b o hk hs)
  cell := fun fl b o hk hs => (h'.cell fl b o hk (h.S fl b o hk hs)).trans (h.cell fl b o hk hs)
  newS := fun fl b o hs => by
    rcases h'.newS fl b o hs with h1 | ⟨h1, h2⟩
    · exact h.newS fl b o h1
    · refine .inr ⟨h1, ?_⟩
      rcases h2 with h2 | h2
      · exact .inl h2
      · exact .inr (Nat.le_trans h.size h2)
theorem Step.weaken {k : Bool} {w w' : World} {G G' : Gh} {X : Nat → Prop} (h : Step false w w' G G' X) : Step k w w' G G' X where
  os := h.os
  tape := h.tape
  output := h.output
  size := h.size
  block := h.block
  nb := h.nb
  S := fun fl b o _ => h.S fl b o (.inl rfl)
  cell := fun fl b o _ => h.cell fl b o (.inl rfl)
  newS := h.newS

section
variable {st : St} {a : Act} {w w' : World} {G G' : Gh} {X F : Nat → Prop}

theorem getD_set {tmps : Array Value} {d i : Nat} {v : Value} (h : d < tmps.size) : (tmps.setIfInBounds d v).getD i undef = if i = d then v else tmps.getD i undef := by
  simp only [Array.getD_eq_getD_getElem?, Array.getElem?_setIfInBounds]
  by_cases h1 : d = i
  · subst h1
    simp [h]
  · rw [if_neg h1, if_neg (fun e => h1 e.symm)]

/-- A slot is written. -/
theorem Rel.put (h : Rel st a w G X F) {dst : Option Nat} {x : AV} {v : Value} {st' : St} (hx : RV w G x v) (hp : st.put dst x = some st') : Rel st' (a.put dst v) w G X F ∧ st'.nx = st.nx ∧ st'.nt = st.nt ∧ st'.bx = st.bx := by
  unfold St.put at hp
  cases dst with
  | none =>
    obtain rfl := Option.some.inj hp
    exact ⟨h, rfl, rfl, rfl⟩
  | some d =>
    simp only at hp
    split at hp
    · rename_i hd
      obtain rfl := Option.some.inj hp
      refine ⟨⟨by simp [Act.put, h.size], h.defers, fun i => ?_, h.box, h.inv, h.free⟩, rfl, rfl, rfl⟩
      simp only [Act.put, St.get, look_cons]
      rw [getD_set (by rw [h.size]; exact hd)]
      by_cases hi : i = d
      · rw [if_pos hi, if_pos hi]; exact hx
      · rw [if_neg hi, if_neg hi]; exact h.slot i
    · simp at hp

theorem BoxOK.keep {id : Nat} {cs : List AV} (hk : Keep w w' G G' (fun _ => False)) (h : BoxOK w G id cs) (hb : ∀ b, G.μ id = some b → w'.heap[b]? = w.heap[b]?) : BoxOK w' G' id cs := by
  obtain ⟨b, vs, T, h1, h2, h3, h4, h5, h6⟩ := h
  exact ⟨b, vs, T, hk.box _ _ h1, (hb b h1).trans h2, h3, h4, h5, fun j hj => hk.rv (h6 j hj)⟩

/-- The world has grown, nothing of ours has changed. -/
theorem Rel.keep (h : Rel st a w G X F) (hk : Keep w w' G G' (fun _ => False)) (hb : ∀ id b, G.μ id = some b → w'.heap[b]? = w.heap[b]?) (hi : Inv w' G' X) {F' : Nat → Prop} (hf : ∀ id, F' id → ¬ G'.al id ∧ G'.μ id = none) : Rel st a w' G' X F' :=
  ⟨h.size, h.defers, fun i => hk.rv (h.slot i), fun id cs hc => (h.box id cs hc).keep hk (hb id), hi, hf⟩

theorem Rel.sees (h : Rel st a w G X F) : Sees st.box st.val a.eval w G where
  val := fun x => by
    cases x with
    | tmp t => exact h.slot t
    | const v => exact ofConst_ok v
    | global g => exact rvUndef _
    | func f => exact .clo _ _ _ rfl (fun j hj => by simp at hj)
  box := h.box
end

end Go.Proofs.Ytogjbacgkcodmaa.Flat
/-
Operations that make or write memory: one law each, of the machine alone.
-/
set_option linter.unusedVariables false
set_option linter.unusedSimpArgs false
namespace Go.Proofs.Ytogjbacgkcodmaa.Flat
variable {P : Program}

/-- An append to a row of ours, whatever there is room for: what is read of the old row stays. -/
theorem append_any {w : World} {t ty e : TypeId} {i : TypeInfo} {z : Value} (ht : P.underlying t = some (.slice e)) (hi : P.info? e = some i) (hz : i.zero = some z)
    (hzs : z.cells.size = i.size) (hsz : 0 < i.size) {v : Value} {n : Nat} {xs : List Value} (hown : w.ownsRow 0 e i.size v n xs)
    (A : Option Addr) (m c : Nat) (news : List Value) (hA : A = none → m = 0) (hA0 : A = none → c = 0) (hl : news.length = m * i.size) (hnews : ∀ a, A = some a → ∀ j u, news[j]? = some u → w.cell? (a.add j) = some u) (h1 : ∀ u ∈ news, u.oneCell' = true)
    (h63 : n + m ≤ maxLen) (hbytes : (n + m) * i.bytes ≤ 140737488355328) :
    ∃ v' w', (Builtin.append_ #[t, t] ty #[v, .slice A m c]).run P w = .ok v' w' ∧ w'.ownsRow 0 e i.size v' (n + m) (xs ++ news) ∧
      w'.os = w.os ∧ w'.tape = w.tape ∧ w'.output = w.output ∧ w.heap.size ≤ w'.heap.size ∧ (∀ k, k < w.heap.size → some k ≠ v.ownBlock → w'.heap[k]? = w.heap[k]?) ∧
      (∀ g, v.ownBlock = some g → (∃ cur, w'.heap[g]? = some (.cells cur e (0, 0))) ∧ ∀ o, o < n * i.size → w'.cell? ⟨g, o, none⟩ = w.cell? ⟨g, o, none⟩) ∧
      (v'.ownBlock = v.ownBlock ∨ v'.ownBlock = some w.heap.size) ∧ (v = .slice none 0 0 → m = 0 → v' = .slice none 0 0) := by
  have hlen : (xs ++ news).length = (n + m) * i.size := by rw [List.length_append, hown.1, hl, Nat.add_mul]
  cases A with
  | none =>
    obtain rfl := hA rfl
    obtain rfl := hA0 rfl
    obtain rfl : news = [] := List.eq_nil_of_length_eq_zero (by simpa using hl)
    refine ⟨v, w, run_append_owned_none w 0 t ty e i i.size ht hi v n xs hown, by simpa using hown, rfl, rfl, rfl, Nat.le_refl _, fun _ _ _ => rfl, fun g hg => ⟨?_, fun _ _ => rfl⟩, .inl rfl, fun h _ => h⟩
    rcases hown.2 with ⟨rfl, _⟩ | ⟨g', cap, cur, rfl, _, hg', _⟩
    · simp [Value.ownBlock] at hg
    · obtain rfl : g' = g := by simpa [Value.ownBlock] using hg
      exact ⟨cur, hg'⟩
  | some a =>
    have hn := hnews a rfl
    have mk : ∀ (cap' : Nat), n + m ≤ cap' → cap' ≤ maxLen → ((w.drew.alloc (.cells (xs.toArray ++ news.toArray ++ Builtin.zeroCells z.cells (cap' - (n + m))) e)).ownsRow 0 e i.size
        (.slice (some ⟨w.heap.size, 0, none⟩) (n + m) cap') (n + m) (xs ++ news)) := by
      intro cap' hc hm
      refine ⟨hlen, .inr ⟨w.heap.size, _, _, rfl, Nat.zero_le _, heap_alloc_new w.drew _, hc, hm, ?_, ?_⟩⟩
      · simp only [Array.size_append, List.size_toArray, size_zeroCells, hzs, hown.1, hl, ← Nat.add_mul]
        congr 1
        omega
      · simp only [Array.toList_append, List.append_assoc]
        rw [← List.append_assoc, ← hlen]
        exact List.take_left
    rcases hown.2 with ⟨rfl, rfl⟩ | ⟨g, cap, cur, rfl, hbg, hg, hnc, hcm, hcs, htake⟩
    · obtain rfl : xs = [] := List.eq_nil_of_length_eq_zero (by simpa using hown.1)
      by_cases hm : m = 0
      · subst hm
        obtain rfl : news = [] := List.eq_nil_of_length_eq_zero (by simpa using hl)
        refine ⟨.slice none 0 0, w, ?_, hown, rfl, rfl, rfl, Nat.le_refl _, fun _ _ _ => rfl, fun g hg => by simp [Value.ownBlock] at hg, .inl rfl, fun h _ => h⟩
        simp [Builtin.append_, run_underlying ht, sizeOf, typeInfo, hi, Builtin.lenOf, Builtin.firstCells, loadCells, loadCellsFrom]
      · have hr := run_append_nil (P := P) w t ty e i z ht hi hz a m c news hl hn (by omega) (by simp only [maxLen] at h63; omega) (by have hb := hbytes; simp only [Nat.zero_add] at hb; omega)
        have hge := grownCap_ge w m 0 e
        have hcm : grownCap w m 0 e ≤ maxLen := grownCap_le_maxLen w m 0 e (by omega)
        have hmk := mk (grownCap w m 0 e) (by omega) hcm
        simp only [Nat.zero_add, List.nil_append, Array.empty_append] at hmk hr ⊢
        exact ⟨_, _, hr, hmk, rfl, rfl, rfl, by simp, fun k hk _ => heap_alloc_old w.drew _ hk, fun g hg => by simp [Value.ownBlock] at hg, .inr rfl, fun _ h => absurd h hm⟩
    · by_cases hroom : n + m ≤ cap
      · have hfit : n * i.size + news.length ≤ cur.size := by rw [hl, hcs, ← Nat.add_mul]; exact Nat.mul_le_mul_right _ hroom
        have hr := run_append_room (P := P) w t ty e i ht hi g n cap cur hg a m c news hl hn h1 hroom hfit
        have hset := setRow_heap w g cur (cur.toList.take (n * i.size) ++ news ++ cur.toList.drop (n * i.size + news.length)).toArray e _ hg
        refine ⟨_, _, hr, ⟨hlen, .inr ⟨g, cap, _, rfl, hbg, hset, hroom, hcm, ?_, ?_⟩⟩, rfl, rfl, rfl, by simp,
          fun k _ hk => setRow_other w g k _ (fun e => hk (by simp [Value.ownBlock, e])), fun g' hg' => ?_, .inl rfl, fun h => by simp at h⟩
        · simp only [List.size_toArray, List.length_append, List.length_take, List.length_drop, Array.length_toList]
          omega
        · rw [htake, ← hlen]
          exact List.take_left
        · obtain rfl : g = g' := by simpa [Value.ownBlock] using hg'
          refine ⟨⟨_, hset⟩, fun o ho => ?_⟩
          simp only [World.cell?, hset, hg]
          have hol : o < (cur.toList.take (n * i.size)).length := by simp; omega
          simp only [Option.isSome_none, Bool.false_eq_true, if_false]
          rw [List.getElem?_toArray, List.append_assoc, List.getElem?_append_left hol, List.getElem?_take_of_lt ho, Array.getElem?_toList]
      · have holds : ∀ j u, xs[j]? = some u → w.cell? ((⟨g, 0, none⟩ : Addr).add j) = some u := hown.cells (g := g) rfl
        have hr := run_append_grow (P := P) w t ty e i z ht hi hz ⟨g, 0, none⟩ n cap xs hown.1 holds a m c news hl hn (by omega) (by simp only [maxLen] at h63; omega) (growslice_fits (by omega) hbytes)
        have hmk := mk (grownCap w (n + m) cap e) (grownCap_ge w (n + m) cap e) (grownCap_le_maxLen w (n + m) cap e h63)
        refine ⟨_, _, hr, hmk, rfl, rfl, rfl, by simp, fun k hk _ => heap_alloc_old w.drew _ hk, fun g' hg' => ?_, .inr rfl, fun h => by simp at h⟩
        obtain rfl : g = g' := by simpa [Value.ownBlock] using hg'
        have hlt : g < w.heap.size := (Array.getElem?_eq_some_iff.1 hg).1
        have ho := heap_alloc_old w.drew (.cells (xs.toArray ++ news.toArray ++ Builtin.zeroCells z.cells (grownCap w (n + m) cap e - (n + m))) e) hlt
        refine ⟨⟨cur, ho.trans hg⟩, fun o _ => ?_⟩
        exact World.cell?_of_block ho

end Go.Proofs.Ytogjbacgkcodmaa.Flat
/-
The state behind an operation that makes a variable or a row.
-/
set_option linter.unusedVariables false
set_option linter.unusedSimpArgs false
namespace Go.Proofs.Ytogjbacgkcodmaa.Flat
section
variable {st : St} {a : Act} {w w' : World} {G G' : Gh} {X F : Nat → Prop}

def Gh.addBox (G : Gh) (nid b : Nat) : Gh := { G with μ := fun i => if i = nid then some b else G.μ i }
def Gh.addRow (G : Gh) (nid : Nat) (v : Value) (L : Nat) (dead : List Nat) : Gh :=
  { G with ρ := fun i => if i = nid then v else G.ρ i, al := fun i => i = nid ∨ (G.al i ∧ i ∉ dead), lim := fun i => if i = nid then L else G.lim i }

theorem heap_alloc_eq {w : World} {o : Obj} {k : Nat} (h : k < w.heap.size) : (w.alloc o).heap[k]? = w.heap[k]? := heap_alloc_old w o h
theorem cell_alloc {w : World} {o : Obj} {b off : Nat} (h : b < w.heap.size) : (w.alloc o).cell? ⟨b, off, none⟩ = w.cell? ⟨b, off, none⟩ := World.cell?_of_block (heap_alloc_eq h)

/-- A new variable. -/
theorem Rel.newBox (h : Rel st a w G X F) (hX : ∀ b, w.heap.size ≤ b → X b) {nid : Nat} (hF : F nid) {cs : List AV} {vs : Array Value} {T : TypeId} (hc : ∀ y ∈ cs, y.isCell = true ∨ y = .undef)
    (ho : ∀ v ∈ vs.toList, v.oneCell' = true) (hv : RVs w G cs vs) :
    Rel (st.setBox nid cs) a (w.alloc (.cells vs T)) (G.addBox nid w.heap.size) X (fun i => F i ∧ i ≠ nid) ∧ Step false w (w.alloc (.cells vs T)) G (G.addBox nid w.heap.size) X := by
  have hn := h.free nid hF
  have hi := h.inv
  have hlt : ∀ id b, G.μ id = some b → b < w.heap.size := fun id b hb => (hi.box id b hb).2.1
  have hk : Keep w (w.alloc (.cells vs T)) G (G.addBox nid w.heap.size) (fun _ => False) := {
    S := fun _ _ _ hs => hs
    cell := fun fl b o hs => cell_alloc (hi.lt fl b o hs)
    row := fun id _ hal => ⟨hal, rfl, rfl, fun g hg => heap_alloc_eq (hi.row id g hal hg).2.1⟩
    box := fun id b hb => by
      show (if id = nid then some w.heap.size else G.μ id) = some b
      rw [if_neg (fun e => by rw [e, hn.2] at hb; simp at hb)]
      exact hb }
  have hμ : ∀ {i b}, (G.addBox nid w.heap.size).μ i = some b → (i = nid ∧ b = w.heap.size) ∨ (i ≠ nid ∧ G.μ i = some b) := by
    intro i b hb
    simp only [Gh.addBox] at hb
    split at hb
    · rename_i e; exact .inl ⟨e, by simpa using hb.symm⟩
    · rename_i e; exact .inr ⟨e, hb⟩
  refine ⟨⟨h.size, h.defers, fun i => hk.rv (h.slot i), fun id ds hd => ?_, ?_, fun id hid => ?_⟩, ?_⟩
  · simp only [St.box, St.setBox, look_cons] at hd
    split at hd
    · rename_i e
      subst e
      obtain rfl := Option.some.inj hd
      refine ⟨w.heap.size, vs, T, by simp [Gh.addBox], heap_alloc_new w _, hv.1, hc, ho, fun j hj => hk.rv (hv.2 j hj)⟩
    · rename_i e
      exact (h.box id ds hd).keep hk (fun b hb => heap_alloc_eq (hlt id b hb))
  · exact {
      nb := by have := hi.nb; simp only [Gh.addBox, World.alloc, Array.size_push]; omega
      row := fun i g hal hg => by
        obtain ⟨h1, h2, h3⟩ := hi.row i g hal hg
        exact ⟨h1, by simp only [World.alloc, Array.size_push]; omega, h3⟩
      box := fun i b hb => by
        rcases hμ hb with ⟨_, rfl⟩ | ⟨_, hb⟩
        · exact ⟨hX _ (Nat.le_refl _), by simp only [World.alloc, Array.size_push]; omega, hi.nb⟩
        · obtain ⟨h1, h2, h3⟩ := hi.box i b hb
          exact ⟨h1, by simp only [World.alloc, Array.size_push]; omega, h3⟩
      rows := hi.rows
      boxes := fun i j b hi' hj' => by
        rcases hμ hi' with ⟨e1, rfl⟩ | ⟨_, hb⟩ <;> rcases hμ hj' with ⟨e2, e3⟩ | ⟨_, hb'⟩
        · rw [e1, e2]
        · have := hlt _ _ hb'; omega
        · subst e3; have := hlt _ _ hb; omega
        · exact hi.boxes i j b hb hb'
      rowBox := fun i j b hal hb hj => by
        rcases hμ hj with ⟨_, rfl⟩ | ⟨_, hj⟩
        · have := (hi.row i _ hal hb).2.1; omega
        · exact hi.rowBox i j b hal hb hj
      lt := fun fl b o hs => by have := hi.lt fl b o hs; simp only [World.alloc, Array.size_push]; omega
      old := hi.old
      new := fun b o hs => by
        obtain ⟨h1, cur, e, h2⟩ := hi.new b o hs
        exact ⟨h1, cur, e, (heap_alloc_eq (hi.lt _ b o hs)).trans h2⟩
      sBox := fun fl b o i hs hb => by
        rcases hμ hb with ⟨_, rfl⟩ | ⟨_, hb⟩
        · have := hi.lt fl _ o hs; omega
        · exact hi.sBox fl b o i hs hb
      sRow := hi.sRow }
  · refine ⟨(h.free id hid.1).1, ?_⟩
    show (if id = nid then some w.heap.size else G.μ id) = none
    rw [if_neg hid.2]
    exact (h.free id hid.1).2
  · exact ⟨rfl, rfl, rfl, by simp only [World.alloc, Array.size_push]; omega, fun b hb _ => heap_alloc_eq hb, rfl, fun _ _ _ _ hs => hs, fun fl b o _ hs => cell_alloc (hi.lt fl b o hs), fun _ _ _ hs => .inl hs⟩

theorem St.scrub_get (st : St) (ids : List Nat) (i : Nat) : (st.scrub ids).get i = st.get i ∧ ids = [] ∨ (st.scrub ids).get i = (st.get i).mapO (fun id fz e sz xs => if id ∈ ids then .undef else .own id fz e sz xs) .ptr (fun id fz e sz xs i off => if id ∈ ids then .undef else .eptr id fz e sz xs i off) (fun _ => .nils) := by
  cases ids with
  | nil => exact .inl ⟨rfl, rfl⟩
  | cons x r => exact .inr (St.get_mapO _ _ _ _ _)
theorem St.scrub_box (st : St) (ids : List Nat) (i : Nat) : (st.scrub ids).box i = st.box i ∧ ids = [] ∨ (st.scrub ids).box i = (st.box i).map fun cs => cs.map (AV.mapO (fun id fz e sz xs => if id ∈ ids then .undef else .own id fz e sz xs) .ptr (fun id fz e sz xs i off => if id ∈ ids then .undef else .eptr id fz e sz xs i off) (fun _ => .nils)) := by
  cases ids with
  | nil => exact .inl ⟨rfl, rfl⟩
  | cons x r => exact .inr (St.box_mapO _ _ _ _ _)
theorem scrub_cell (ids : List Nat) (y : AV) (h : y.isCell = true ∨ y = .undef) :
    (y.mapO (fun id fz e sz xs => if id ∈ ids then .undef else .own id fz e sz xs) .ptr (fun id fz e sz xs i off => if id ∈ ids then .undef else .eptr id fz e sz xs i off) (fun _ => .nils)).isCell = true ∨
      (y.mapO (fun id fz e sz xs => if id ∈ ids then .undef else .own id fz e sz xs) .ptr (fun id fz e sz xs i off => if id ∈ ids then .undef else .eptr id fz e sz xs i off) (fun _ => .nils)) = .undef := by
  cases y with
  | undef => exact .inr rfl
  | own id fz e sz xs =>
    simp only [AV.mapO]
    split
    · exact .inr rfl
    · exact .inl rfl
  | eptr id fz e sz xs i off =>
    simp only [AV.mapO]
    split
    · exact .inr rfl
    · exact .inl rfl
  | agg cs => rcases h with h | h <;> simp [AV.isCell] at h
  | tup cs => rcases h with h | h <;> simp [AV.isCell] at h
  | _ => exact .inl rfl

/-- All that names a row in ids is struck; what else changes leaves the rest as it is. -/
theorem Rel.scrub (h : Rel st a w G X F) {ids : List Nat} (hk : Keep w w' G G' (fun id => id ∈ ids)) (hb : ∀ id b, G.μ id = some b → w'.heap[b]? = w.heap[b]?) (hi : Inv w' G' X) {F' : Nat → Prop} (hf : ∀ id, F' id → ¬ G'.al id ∧ G'.μ id = none) :
    Rel (st.scrub ids) a w' G' X F' := by
  have hnt : (st.scrub ids).nt = st.nt := by cases ids <;> rfl
  have hke : ids = [] → Keep w w' G G' (fun _ => False) := fun e => ⟨hk.S, hk.cell, fun id hn => hk.row id (by rw [e]; simp), hk.box⟩
  refine ⟨by rw [hnt]; exact h.size, h.defers, fun i => ?_, fun id cs hc => ?_, hi, hf⟩
  · rcases st.scrub_get ids i with ⟨e, e2⟩ | e
    · rw [e]; exact (hke e2).rv (h.slot i)
    · rw [e]; exact hk.scrub (h.slot i)
  · rcases st.scrub_box ids id with ⟨e, e2⟩ | e
    · rw [e] at hc
      exact (h.box id cs hc).keep (hke e2) (hb id)
    · rw [e] at hc
      obtain ⟨cs0, hc0, rfl⟩ := Option.map_eq_some_iff.1 hc
      obtain ⟨b, vs, T, h1, h2, h3, h4, h5, h6⟩ := h.box id cs0 hc0
      refine ⟨b, vs, T, hk.box _ _ h1, (hb id b h1).trans h2, by simpa using h3, fun y hy => ?_, h5, fun j hj => ?_⟩
      · obtain ⟨y0, hy0, rfl⟩ := List.mem_map.1 hy
        exact scrub_cell ids y0 (h4 y0 hy0)
      · rw [List.getElem_map]
        exact hk.scrub (h6 j (by simpa using hj))

/-- A new row; the rows in dead (at most one: its array may be the new one's) are named no more. -/
theorem Rel.newRow (h : Rel st a w G X F) (hX : ∀ b, w.heap.size ≤ b → X b) {nid : Nat} (hF : F nid) {dead : List Nat} (hdead : ∀ i ∈ dead, G.al i) {v : Value} {L : Nat} {fz : Bool} {e sz : Nat} {xs : List AV}
    (hos : w'.os = w.os) (htape : w'.tape = w.tape) (hout : w'.output = w.output) (hsize : w.heap.size ≤ w'.heap.size)
    (hheap : ∀ k, k < w.heap.size → (∀ i ∈ dead, (G.ρ i).ownBlock ≠ some k) → w'.heap[k]? = w.heap[k]?)
    (hcell : ∀ fl b o, G.S fl b o → w'.cell? ⟨b, o, none⟩ = w.cell? ⟨b, o, none⟩)
    (hplain : ∀ i ∈ dead, ∀ b, (G.ρ i).ownBlock = some b → ∃ cur e, w'.heap[b]? = some (.cells cur e (0, 0)))
    (hv : ∀ g, v.ownBlock = some g → (w.heap.size ≤ g ∧ g < w'.heap.size) ∨ ∃ i ∈ dead, (G.ρ i).ownBlock = some g ∧ G.lim i ≤ L)
    (hL : L ≤ (if fz then xs.length * sz else 0)) (hsz : ∀ x ∈ xs, x.cells.length = sz) (hc : ∀ y ∈ flat xs, y.isCell = true)
    {inner : List Value} (hown : w'.ownsRow 0 e sz v xs.length inner) (hr : ∀ j (h : j < (flat xs).length), RO w G.S (flat xs)[j] (inner.getD j undef)) :
    Rel (st.scrub dead) a w' (G.addRow nid v L dead) X (fun i => F i ∧ i ≠ nid) ∧ Step false w w' G (G.addRow nid v L dead) X ∧ RV w' (G.addRow nid v L dead) (.own nid fz e sz xs) v := by
  have hn := h.free nid hF
  have hi := h.inv
  have hnd : nid ∉ dead := fun hd => hn.1 (hdead nid hd)
  have hρ : ∀ {i}, i ≠ nid → (G.addRow nid v L dead).ρ i = G.ρ i := fun hne => by simp [Gh.addRow, hne]
  have hρn : (G.addRow nid v L dead).ρ nid = v := by simp [Gh.addRow]
  have hal : ∀ {i}, (G.addRow nid v L dead).al i → i = nid ∨ (i ≠ nid ∧ G.al i ∧ i ∉ dead) := by
    intro i hai
    by_cases e : i = nid
    · exact .inl e
    · rcases hai with rfl | hai
      · exact absurd rfl e
      · exact .inr ⟨e, hai⟩
  have hother : ∀ i g, G.al i → i ∉ dead → (G.ρ i).ownBlock = some g → w'.heap[g]? = w.heap[g]? := fun i g h1 h2 h3 =>
    hheap g (hi.row i g h1 h3).2.1 (fun d hd hdg => hi.rows d i g (hdead d hd) h1 (fun e => h2 (e ▸ hd)) hdg h3)
  have hbox : ∀ id b, G.μ id = some b → w'.heap[b]? = w.heap[b]? := fun id b hb =>
    hheap b (hi.box id b hb).2.1 (fun d hd hdb => hi.rowBox d id b (hdead d hd) hdb hb)
  have hk : Keep w w' G (G.addRow nid v L dead) (fun id => id ∈ dead) := {
    S := fun _ _ _ hs => hs
    cell := hcell
    row := fun id hid hai => by
      have hne : id ≠ nid := fun e => hn.1 (e ▸ hai)
      exact ⟨.inr ⟨hai, hid⟩, hρ hne, by simp [Gh.addRow, hne], fun g hg => hother id g hai hid hg⟩
    box := fun _ _ hb => hb }
  have hvx : ∀ g, v.ownBlock = some g → X g ∧ g < w'.heap.size ∧ G.nb ≤ g := by
    intro g hg
    rcases hv g hg with ⟨h1, h2⟩ | ⟨i, hd, h1, _⟩
    · exact ⟨hX g h1, h2, Nat.le_trans hi.nb h1⟩
    · obtain ⟨h2, h3, h4⟩ := hi.row i g (hdead i hd) h1
      exact ⟨h2, Nat.lt_of_lt_of_le h3 hsize, h4⟩
  have hvn : ∀ i g, G.al i → i ∉ dead → (G.ρ i).ownBlock = some g → v.ownBlock ≠ some g := by
    intro i g h1 h2 h3 h4
    rcases hv g h4 with ⟨h5, _⟩ | ⟨d, hd, h5, _⟩
    · have := (hi.row i g h1 h3).2.1; omega
    · exact hi.rows d i g (hdead d hd) h1 (fun e => h2 (e ▸ hd)) h5 h3
  have hinv : Inv w' (G.addRow nid v L dead) X := {
    nb := Nat.le_trans hi.nb hsize
    row := fun i g hai hg => by
      rcases hal hai with rfl | ⟨hne, h1, h2⟩
      · rw [hρn] at hg; exact hvx g hg
      · rw [hρ hne] at hg
        obtain ⟨h3, h4, h5⟩ := hi.row i g h1 hg
        exact ⟨h3, Nat.lt_of_lt_of_le h4 hsize, h5⟩
    box := fun i b hb => by
      obtain ⟨h3, h4, h5⟩ := hi.box i b hb
      exact ⟨h3, Nat.lt_of_lt_of_le h4 hsize, h5⟩
    rows := fun i j g hai haj hij hg hg' => by
      rcases hal hai with rfl | ⟨hne, h1, h2⟩ <;> rcases hal haj with rfl | ⟨hne', h1', h2'⟩
      · exact hij rfl
      · rw [hρn] at hg; rw [hρ hne'] at hg'; exact hvn j g h1' h2' hg' hg
      · rw [hρ hne] at hg; rw [hρn] at hg'; exact hvn i g h1 h2 hg hg'
      · rw [hρ hne] at hg; rw [hρ hne'] at hg'; exact hi.rows i j g h1 h1' hij hg hg'
    boxes := hi.boxes
    rowBox := fun i j b hai hg hb => by
      rcases hal hai with rfl | ⟨hne, h1, h2⟩
      · rw [hρn] at hg
        rcases hv b hg with ⟨h5, _⟩ | ⟨d, hd, h5, _⟩
        · have := (hi.box j b hb).2.1; omega
        · exact hi.rowBox d j b (hdead d hd) h5 hb
      · rw [hρ hne] at hg; exact hi.rowBox i j b h1 hg hb
    lt := fun fl b o hs => Nat.lt_of_lt_of_le (hi.lt fl b o hs) hsize
    old := hi.old
    new := fun b o hs => by
      obtain ⟨h1, cur, e, h2⟩ := hi.new b o hs
      refine ⟨h1, ?_⟩
      by_cases hd : ∃ i ∈ dead, (G.ρ i).ownBlock = some b
      · obtain ⟨i, hd, hb⟩ := hd; exact hplain i hd b hb
      · exact ⟨cur, e, (hheap b (hi.lt _ b o hs) (fun i hd' hb => hd ⟨i, hd', hb⟩)).trans h2⟩
    sBox := hi.sBox
    sRow := fun fl b o i hs hai hg => by
      rcases hal hai with rfl | ⟨hne, h1, h2⟩
      · rw [hρn] at hg
        have hl : (G.addRow i v L dead).lim i = L := by simp [Gh.addRow]
        rw [hl]
        rcases hv b hg with ⟨h5, _⟩ | ⟨d, hd, h5, h6⟩
        · have := hi.lt fl b o hs; omega
        · exact Nat.lt_of_lt_of_le (hi.sRow fl b o d hs (hdead d hd) h5) h6
      · rw [hρ hne] at hg
        have hl : (G.addRow nid v L dead).lim i = G.lim i := by simp [Gh.addRow, hne]
        rw [hl]
        exact hi.sRow fl b o i hs h1 hg }
  refine ⟨h.scrub hk hbox hinv (fun id hid => ?_), ⟨hos, htape, hout, hsize, fun b hb hx => ?_, rfl, fun _ _ _ _ hs => hs, fun fl b o _ hs => hcell fl b o hs, fun _ _ _ hs => .inl hs⟩, ?_⟩
  · refine ⟨fun hai => ?_, (h.free id hid.1).2⟩
    rcases hal hai with e | ⟨_, h1, _⟩
    · exact hid.2 e
    · exact (h.free id hid.1).1 h1
  · exact hheap b hb (fun i hd hg => hx (hi.row i b (hdead i hd) hg).1)
  · have := RV.own (w := w') (G := G.addRow nid v L dead) nid fz e sz xs ⟨.inl rfl, by simpa [Gh.addRow] using hL, hsz, hc, inner, by rw [hρn]; exact hown, fun j hj => (hr j hj).mono (fun _ _ _ hs => hs) hcell⟩
    rw [hρn] at this
    exact this
end
end Go.Proofs.Ytogjbacgkcodmaa.Flat
/-
Rows that are handed on to be read.
-/
set_option linter.unusedVariables false
set_option linter.unusedSimpArgs false
namespace Go.Proofs.Ytogjbacgkcodmaa.Flat
section
variable {st : St} {a : Act} {w w' : World} {G G' : Gh} {X F : Nat → Prop}

/-- How many cells of a row of ours are in use. -/
noncomputable def rowCells (w : World) (G : Gh) (id : Nat) : Nat :=
  match G.ρ id with
  | .slice (some ad) n c => (match w.heap[ad.block]? with | some (.cells cur _ _) => n * (cur.size / c) | _ => 0)
  | _ => 0
theorem RowOK.cells {id : Nat} {fz : Bool} {e sz : Nat} {xs : List AV} (h : RowOK w G id fz e sz xs) : rowCells w G id = xs.length * sz := by
  obtain ⟨_, _, _, _, inner, ho, _⟩ := h
  rcases ho.2 with ⟨h5, h6⟩ | ⟨g, cap, cur, h5, h0, h7, h6, hm, hs, _⟩
  · rw [h6, Nat.zero_mul]; simp [rowCells, h5]
  · simp only [rowCells, h5, h7]
    by_cases hc : cap = 0
    · have : xs.length = 0 := by omega
      rw [this, Nat.zero_mul, Nat.zero_mul]
    · rw [hs, Nat.mul_div_cancel_left _ (by omega)]
/-- The cells that may be read besides: of rows in Rw, and of variables in Bs. -/
def Gh.more (G : Gh) (w : World) (Rw Bs : Nat → Prop) : Cells := fun fl b o =>
  G.S fl b o ∨ (fl = true ∧ ((∃ id, Rw id ∧ G.al id ∧ (G.ρ id).ownBlock = some b ∧ o < rowCells w G id) ∨ (∃ id, Bs id ∧ G.μ id = some b)))

theorem RowOK.sl {id : Nat} {fz : Bool} {e sz : Nat} {xs : List AV} (h : RowOK w G id fz e sz xs) {S : Cells} (hS : ∀ fl b o, G.S fl b o → S fl b o) (hrow : ∀ g o, (G.ρ id).ownBlock = some g → o < xs.length * sz → S true g o) :
    RO w S (.sl true xs) (G.ρ id) := by
  obtain ⟨hal, hlim, hsz, hcell, inner, ho, hr⟩ := h
  rcases ho.2 with ⟨h5, h6⟩ | ⟨g, cap, cur, h5, h0, h7, h6, hm, hs, _⟩
  · obtain rfl : xs = [] := List.eq_nil_of_length_eq_zero h6
    rw [h5]
    exact .slNil _ _ _ _ (fun _ => rfl)
  · by_cases hne : xs = []
    · subst hne
      rw [h5]
      exact .slNil _ _ _ _ (fun e => by simp at e)
    · rw [h5] at ho hrow ⊢
      have hfl : (flat xs).length = xs.length * sz := flat_length hsz
      refine .sl _ true xs ⟨g, 0, none⟩ cap sz (fun j => inner.getD j undef) hne h6 rfl hsz hcell (fun j hj => ⟨?_, ?_⟩) (fun j hj => ?_)
      · simp only [Nat.zero_add]; exact hrow g j rfl hj
      · rw [add_eq rfl]
        simp only [Nat.zero_add]
        rw [World.ownsRow.cellAt ho j hj]
        have : j < inner.length := by rw [ho.1]; exact hj
        simp [List.getD_eq_getElem?_getD, this]
      · exact (hr j hj).mono (fun fl b o hs => ⟨.inl rfl, hS fl b o hs⟩) (fun _ _ _ _ => rfl)

/-- What is handed on is read: each name is replaced by what may be read of it. -/
theorem RV.mapRO {S : Cells} {f : Nat → Bool → Nat → Nat → List AV → AV} {g : Nat → Nat → AV} {h : Nat → Bool → Nat → Nat → List AV → Nat → Nat → AV} {z : Unit → AV}
    (hro : ∀ a v, RO w G.S a v → RO w S a v)
    (hown : ∀ id fz e sz xs, RowOK w G id fz e sz xs → RO w S (f id fz e sz xs) (G.ρ id))
    (hptr : ∀ id off b, G.μ id = some b → RO w S (g id off) (.pointer (some ⟨b, off, none⟩)))
    (heptr : ∀ id fz e sz xs i off ad n c, RowOK w G id fz e sz xs → G.ρ id = .slice (some ad) n c → RO w S (h id fz e sz xs i off) (.pointer (some (ad.add (i * sz + off)))))
    (hz : RO w S (z ()) (.slice none 0 0))
    {a : AV} {v : Value} (hr : RV w G a v) : RO w S (a.mapO f g h z) v := by
  induction hr with
  | ro hr => rw [hr.mapO_eq]; exact hro _ _ hr
  | nils => exact hz
  | own id fz e sz xs hk => exact hown _ _ _ _ _ hk
  | ptr id off b hk => exact hptr _ _ _ hk
  | eptr id fz e sz xs i off ad n c hk hρ => exact heptr _ _ _ _ _ _ _ _ _ _ hk hρ
  | agg cs vs hl hr ih => rw [AV.mapO, AV.mapOs_eq]; exact .agg _ _ _ (by simpa using hl) fun j hj => by rw [getD_map_lt]; exact ih j (by simpa using hj)
  | tup cs vs hl hr ih => rw [AV.mapO, AV.mapOs_eq]; exact .tup _ _ _ (by simpa using hl) fun j hj => by rw [getD_map_lt]; exact ih j (by simpa using hj)
  | clo n cs vs hl hr ih => rw [AV.mapO, AV.mapOs_eq]; exact .clo _ _ _ _ (by simpa using hl) fun j hj => by rw [getD_map_lt]; exact ih j (by simpa using hj)

theorem RowOK.inR {id : Nat} {fz : Bool} {e sz : Nat} {xs : List AV} (h : RowOK w G id fz e sz xs) {Rw Bs : Nat → Prop} (hR : Rw id) (g o : Nat) (hg : (G.ρ id).ownBlock = some g) (ho : o < xs.length * sz) : G.more w Rw Bs true g o :=
  .inr ⟨rfl, .inl ⟨id, hR, h.1, hg, by rw [h.cells]; exact ho⟩⟩

theorem RV.rows_al {v : AV} {x : Value} (h : RV w G v x) : ∀ id ∈ v.rows, ∃ fz e sz xs, RowOK w G id fz e sz xs := by
  have hss : ∀ (cs : List AV) (id : Nat), id ∈ AV.rowss cs → ∃ j, ∃ h : j < cs.length, id ∈ cs[j].rows := by
    intro cs
    induction cs with
    | nil => intro id h; simp [AV.rowss] at h
    | cons c cs ih =>
      intro id h
      simp only [AV.rowss, List.mem_append] at h
      rcases h with h | h
      · exact ⟨0, by simp, h⟩
      · obtain ⟨j, hj, hm⟩ := ih id h
        exact ⟨j + 1, by simpa using hj, by simpa using hm⟩
  have hro : ∀ {S : Cells} {a : AV} {v : Value}, RO w S a v → a.rows = [] := by
    intro S a v h
    have hss' : ∀ (cs : List AV), (∀ j (h : j < cs.length), cs[j].rows = []) → AV.rowss cs = [] := by
      intro cs hc
      apply List.eq_nil_iff_forall_not_mem.2
      intro id hid
      obtain ⟨j, hj, hm⟩ := hss cs id hid
      rw [hc j hj] at hm
      simp at hm
    induction h with
    | agg S cs vs hl hr ih => simp only [AV.rows]; exact hss' cs ih
    | tup S cs vs hl hr ih => simp only [AV.rows]; exact hss' cs ih
    | clo S f cs vs hl hr ih => simp only [AV.rows]; exact hss' cs ih
    | _ => rfl
  induction h with
  | ro h => intro id hid; rw [hro h] at hid; simp at hid
  | nils => intro id hid; simp [AV.rows] at hid
  | own id fz e sz xs h => intro i hi; (obtain rfl : i = id := by simpa [AV.rows] using hi); exact ⟨_, _, _, _, h⟩
  | ptr => intro id hid; simp [AV.rows] at hid
  | eptr id fz e sz xs i off ad n c h hρ => intro i hi; (obtain rfl : i = id := by simpa [AV.rows] using hi); exact ⟨_, _, _, _, h⟩
  | agg cs vs hl hr ih => intro id hid; simp only [AV.rows] at hid; obtain ⟨j, hj, hm⟩ := hss cs id hid; exact ih j hj id hm
  | tup cs vs hl hr ih => intro id hid; simp only [AV.rows] at hid; obtain ⟨j, hj, hm⟩ := hss cs id hid; exact ih j hj id hm
  | clo n cs vs hl hr ih => intro id hid; simp only [AV.rows] at hid; obtain ⟨j, hj, hm⟩ := hss cs id hid; exact ih j hj id hm

/-! ### rows that are read from now on -/
noncomputable def Gh.freeze (G : Gh) (w : World) (ids : List Nat) : Gh := { G with S := G.more w (fun i => i ∈ ids) (fun _ => False), lim := fun i => if i ∈ ids then rowCells w G i else G.lim i }

theorem St.freeze_get (st : St) (ids : List Nat) (i : Nat) : (st.freeze ids).get i = st.get i ∧ ids = [] ∨ (st.freeze ids).get i = (st.get i).mapO (fun id fz e sz xs => .own id (fz || decide (id ∈ ids)) e sz xs) .ptr (fun id fz e sz xs i off => .eptr id (fz || decide (id ∈ ids)) e sz xs i off) (fun _ => .nils) := by
  cases ids with
  | nil => exact .inl ⟨rfl, rfl⟩
  | cons x r => exact .inr (St.get_mapO _ _ _ _ _)
theorem St.freeze_box (st : St) (ids : List Nat) (i : Nat) : (st.freeze ids).box i = st.box i ∧ ids = [] ∨ (st.freeze ids).box i = (st.box i).map fun cs => cs.map (AV.mapO (fun id fz e sz xs => .own id (fz || decide (id ∈ ids)) e sz xs) .ptr (fun id fz e sz xs i off => .eptr id (fz || decide (id ∈ ids)) e sz xs i off) (fun _ => .nils)) := by
  cases ids with
  | nil => exact .inl ⟨rfl, rfl⟩
  | cons x r => exact .inr (St.box_mapO _ _ _ _ _)

theorem freeze_rv {ids : List Nat} {v : AV} {x : Value} (h : RV w G v x) : RV w (G.freeze w ids) (v.mapO (fun id fz e sz xs => .own id (fz || decide (id ∈ ids)) e sz xs) .ptr (fun id fz e sz xs i off => .eptr id (fz || decide (id ∈ ids)) e sz xs i off) (fun _ => .nils)) x := by
  have hro : ∀ a v, RO w G.S a v → RO w (G.freeze w ids).S a v := fun a v h => h.mono (fun _ _ _ hs => .inl hs) (fun _ _ _ _ => rfl)
  have hrow : ∀ id fz e sz xs, RowOK w G id fz e sz xs → RowOK w (G.freeze w ids) id (fz || decide (id ∈ ids)) e sz xs := by
    intro id fz e sz xs hk
    have hcells := hk.cells
    obtain ⟨hal, hlim, hsz, hcell, inner, ho, hr⟩ := hk
    refine ⟨hal, ?_, hsz, hcell, inner, ho, fun j hj => hro _ _ (hr j hj)⟩
    simp only [Gh.freeze]
    by_cases hid : id ∈ ids
    · simp [hid, hcells]
    · simpa [hid] using hlim
  exact RV.map hro (fun id fz e sz xs hk => .own (G := G.freeze w ids) _ _ _ _ _ (hrow _ _ _ _ _ hk)) (fun id off b hb => .ptr _ _ _ hb)
    (fun id fz e sz xs i off ad n c hk hρ => .eptr (G := G.freeze w ids) _ _ _ _ _ _ _ _ n c (hrow _ _ _ _ _ hk) hρ) .nils h

theorem Inv.freeze (hi : Inv w G X) {ids : List Nat} (hids : ∀ id ∈ ids, ∃ fz e sz xs, RowOK w G id fz e sz xs) : Inv w (G.freeze w ids) X := by
  have hS : ∀ {fl b o}, (G.freeze w ids).S fl b o → G.S fl b o ∨ (fl = true ∧ ∃ id ∈ ids, G.al id ∧ (G.ρ id).ownBlock = some b ∧ o < rowCells w G id) := by
    intro fl b o hs
    rcases hs with hs | ⟨h1, h2 | ⟨_, h2, _⟩⟩
    · exact .inl hs
    · exact .inr ⟨h1, h2⟩
    · exact h2.elim
  have hle : ∀ id ∈ ids, G.lim id ≤ rowCells w G id := by
    intro id hid
    obtain ⟨fz, e, sz, xs, hk⟩ := hids id hid
    rw [hk.cells]
    have := hk.2.1
    split at this <;> omega
  exact {
    nb := hi.nb
    row := hi.row
    box := hi.box
    rows := hi.rows
    boxes := hi.boxes
    rowBox := hi.rowBox
    lt := fun fl b o hs => by
      rcases hS hs with hs | ⟨_, id, _, hal, hg, _⟩
      · exact hi.lt fl b o hs
      · exact (hi.row id b hal hg).2.1
    old := fun b o hs => by
      rcases hS hs with hs | ⟨h, _⟩
      · exact hi.old b o hs
      · simp at h
    new := fun b o hs => by
      rcases hS hs with hs | ⟨_, id, hid, hal, hg, _⟩
      · exact hi.new b o hs
      · refine ⟨(hi.row id b hal hg).2.2, ?_⟩
        obtain ⟨fz, e, sz, xs, hk⟩ := hids id hid
        obtain ⟨_, _, _, _, inner, ho, _⟩ := hk
        rcases ho.2 with ⟨h5, h6⟩ | ⟨g, cap, cur, h5, h0, h7, _⟩
        · rw [h5] at hg; simp [Value.ownBlock] at hg
        · rw [h5] at hg
          obtain rfl : g = b := by simpa [Value.ownBlock] using hg
          exact ⟨cur, e, h7⟩
    sBox := fun fl b o i hs hb => by
      rcases hS hs with hs | ⟨_, id, _, hal, hg, _⟩
      · exact hi.sBox fl b o i hs hb
      · exact hi.rowBox id i b hal hg hb
    sRow := fun fl b o i hs hal hg => by
      have hlim : (G.freeze w ids).lim i = if i ∈ ids then rowCells w G i else G.lim i := rfl
      rw [hlim]
      rcases hS hs with hs | ⟨_, id, hid, hal', hg', ho⟩
      · have h1 := hi.sRow fl b o i hs hal hg
        split
        · rename_i hm; exact Nat.lt_of_lt_of_le h1 (hle i hm)
        · exact h1
      · have : id = i := Classical.byContradiction fun hne => hi.rows id i b hal' hal hne hg' hg
        subst this
        rw [if_pos hid]
        exact ho }

theorem freeze_cell (ids : List Nat) (y : AV) (h : y.isCell = true ∨ y = .undef) :
    (y.mapO (fun id fz e sz xs => .own id (fz || decide (id ∈ ids)) e sz xs) .ptr (fun id fz e sz xs i off => .eptr id (fz || decide (id ∈ ids)) e sz xs i off) (fun _ => .nils)).isCell = true ∨
      (y.mapO (fun id fz e sz xs => .own id (fz || decide (id ∈ ids)) e sz xs) .ptr (fun id fz e sz xs i off => .eptr id (fz || decide (id ∈ ids)) e sz xs i off) (fun _ => .nils)) = .undef := by
  cases y with
  | undef => exact .inr rfl
  | agg cs => rcases h with h | h <;> simp [AV.isCell] at h
  | tup cs => rcases h with h | h <;> simp [AV.isCell] at h
  | _ => exact .inl rfl

theorem Rel.freeze (h : Rel st a w G X F) {ids : List Nat} (hids : ∀ id ∈ ids, ∃ fz e sz xs, RowOK w G id fz e sz xs) :
    Rel (st.freeze ids) a w (G.freeze w ids) X F ∧ Step false w w G (G.freeze w ids) X := by
  have hnt : (st.freeze ids).nt = st.nt := by cases ids <;> rfl
  have hnil : ids = [] → ∀ {v : AV} {x : Value}, RV w G v x → RV w (G.freeze w ids) v x := by
    intro e v x hv
    refine Keep.rv (w := w) (w' := w) (G := G) (G' := G.freeze w ids) ⟨fun _ _ _ hs => Or.inl hs, fun _ _ _ _ => rfl, fun id _ hal => ⟨hal, rfl, by simp [Gh.freeze, e], fun _ _ => rfl⟩, fun _ _ hb => hb⟩ hv
  refine ⟨⟨by rw [hnt]; exact h.size, h.defers, fun i => ?_, fun id cs hc => ?_, h.inv.freeze hids, h.free⟩, ?_⟩
  · rcases st.freeze_get ids i with ⟨e, e2⟩ | e
    · rw [e]; exact hnil e2 (h.slot i)
    · rw [e]; exact freeze_rv (h.slot i)
  · rcases st.freeze_box ids id with ⟨e, e2⟩ | e
    · rw [e] at hc
      obtain ⟨b, vs, T, h1, h2, h3, h4, h5, h6⟩ := h.box id cs hc
      exact ⟨b, vs, T, h1, h2, h3, h4, h5, fun j hj => hnil e2 (h6 j hj)⟩
    · rw [e] at hc
      obtain ⟨cs0, hc0, rfl⟩ := Option.map_eq_some_iff.1 hc
      obtain ⟨b, vs, T, h1, h2, h3, h4, h5, h6⟩ := h.box id cs0 hc0
      refine ⟨b, vs, T, h1, h2, by simpa using h3, fun y hy => ?_, h5, fun j hj => ?_⟩
      · obtain ⟨y0, hy0, rfl⟩ := List.mem_map.1 hy
        exact freeze_cell ids y0 (h4 y0 hy0)
      · rw [List.getElem_map]
        exact freeze_rv (h6 j (by simpa using hj))
  · refine ⟨rfl, rfl, rfl, Nat.le_refl _, fun _ _ _ => rfl, rfl, fun _ _ _ _ hs => .inl hs, fun _ _ _ _ _ => rfl, fun fl b o hs => ?_⟩
    rcases hs with hs | ⟨h1, ⟨id, _, hal, hg, _⟩ | ⟨_, h2, _⟩⟩
    · exact .inl hs
    · exact .inr ⟨h1, .inl (h.inv.row id b hal hg).1⟩
    · exact h2.elim

/-- A value that goes into a row. -/
theorem RV.shutV {v : AV} {x : Value} (h : RV w G v x) {ids : List Nat} (hids : ∀ id ∈ v.rows, id ∈ ids) : RO w (G.freeze w ids).S v.shutV x := by
  have hS : ∀ fl b o, G.S fl b o → (G.freeze w ids).S fl b o := fun _ _ _ hs => Or.inl hs
  have hss : ∀ (cs : List AV) (j : Nat) (h : j < cs.length), ∀ id ∈ cs[j].rows, id ∈ AV.rowss cs := by
    intro cs
    induction cs with
    | nil => intro j hj; simp at hj
    | cons c cs ih =>
      intro j hj id hm
      simp only [AV.rowss, List.mem_append]
      cases j with
      | zero => exact .inl (by simpa using hm)
      | succ j => exact .inr (ih j (by simpa using hj) id (by simpa using hm))
  induction h with
  | ro h => rw [AV.shutV, h.mapO_eq]; exact h.mono hS (fun _ _ _ _ => rfl)
  | nils => exact .slNil _ _ _ _ (fun _ => rfl)
  | own id fz e sz xs hk => exact hk.sl hS (fun g o hg ho => hk.inR (hids id (by simp [AV.rows])) g o hg ho)
  | ptr id off b hk => exact .undef _ _
  | eptr => exact .undef _ _
  | agg cs vs hl hr ih => rw [AV.shutV, AV.mapO, AV.mapOs_eq]; exact .agg _ _ _ (by simpa using hl) fun j hj => by rw [getD_map_lt]; exact ih j (by simpa using hj) (fun id hm => hids id (hss cs j _ id hm))
  | tup cs vs hl hr ih => rw [AV.shutV, AV.mapO, AV.mapOs_eq]; exact .tup _ _ _ (by simpa using hl) fun j hj => by rw [getD_map_lt]; exact ih j (by simpa using hj) (fun id hm => hids id (hss cs j _ id hm))
  | clo n cs vs hl hr ih => rw [AV.shutV, AV.mapO, AV.mapOs_eq]; exact .clo _ _ _ _ (by simpa using hl) fun j hj => by rw [getD_map_lt]; exact ih j (by simpa using hj) (fun id hm => hids id (hss cs j _ id hm))
end
end Go.Proofs.Ytogjbacgkcodmaa.Flat
/-
Operations that make or write memory: the state behind them.
-/
set_option linter.unusedVariables false
set_option linter.unusedSimpArgs false
namespace Go.Proofs.Ytogjbacgkcodmaa.Flat

/-- What an operation comes to, calls aside. -/
def Done (k : Bool) (P : Program) (o : Oper) (a : Act) (w : World) (G : Gh) (X F' : Nat → Prop) (st' : St) : Prop :=
  ∃ w' G', Step k w w' G G' X ∧ ((∃ v, (execOp a.eval o).run P w = .ok (.value v) w' ∧ Rel st' (a.put o.dst v) w' G' X F') ∨ ((execOp a.eval o).run P w = .ok .skip w' ∧ Rel st' (a.put o.dst undef) w' G' X F'))

section
variable {P : Program} {st st' : St} {a : Act} {w : World} {G : Gh} {X F : Nat → Prop} {nid : Nat} {o : Oper}

theorem Rel.weaken {F' : Nat → Prop} (h : Rel st a w G X F) (hf : ∀ i, F' i → F i) : Rel st a w G X F' := ⟨h.size, h.defers, h.slot, h.box, h.inv, fun id hid => h.free id (hf id hid)⟩

theorem done_value {k : Bool} {F' : Nat → Prop} {w' : World} {G' : Gh} {st1 : St} {x : AV} {v : Value} (hs : Step k w w' G G' X) (hr : Rel st1 a w' G' X F') (hx : RV w' G' x v) (hrun : (execOp a.eval o).run P w = .ok (.value v) w') (hp : st1.put o.dst x = some st') :
    Done k P o a w G X F' st' := ⟨w', G', hs, .inl ⟨v, hrun, (hr.put hx hp).1⟩⟩

theorem run_newRow (e : TypeId) (cells : Array Value) (w : World) : (newRow e cells).run P w = .ok ⟨w.heap.size, 0, none⟩ (w.alloc (.cells cells e)) := by
  simp [newRow]

theorem evAlloc_ok {t : Nat} (h : Rel st a w G X F) (hX : ∀ b, w.heap.size ≤ b → X b) (hF : F nid) (hop : o.op = .alloc t) (he : evAlloc P t nid o.dst st = some st') :
    Done false P o a w G X (fun i => F i ∧ i ≠ nid) st' := by
  unfold evAlloc at he
  obtain ⟨ti, hti, he⟩ := Option.bind_eq_some_iff.1 he
  obtain ⟨z, hz, he⟩ := Option.bind_eq_some_iff.1 he
  obtain ⟨cs, hcs, he⟩ := Option.bind_eq_some_iff.1 he
  obtain ⟨h1, h2, h3⟩ := ofCells_ok (w := w) (G := G) hcs
  have hR := ofCells_RVs (w := w) (G := G) hcs
  have hone : ∀ v ∈ z.cells.toList, v.oneCell' = true := by
    intro v hv
    obtain ⟨j, hj, rfl⟩ := List.getElem_of_mem hv
    have h4 := h3 j (by omega)
    have h5 := h4.one (h2 _ (List.getElem_mem _))
    rw [List.getD_eq_getElem?_getD, List.getElem?_eq_getElem hj] at h5
    exact h5
  obtain ⟨hr, hs⟩ := h.newBox (T := t) hX hF (fun y hy => .inl (h2 y hy)) hone hR
  refine done_value hs hr (.ptr _ _ w.heap.size (by simp [Gh.addBox])) ?_ he
  have hzr := run_zero hti hz w
  simp only [execOp, hop]
  simp [Instr.alloc, hzr, newVar, run_newRow]

theorem cells_one {x : AV} {v : Value} (hx : RV w G x v) (hc : x.cells.all AV.isCell = true) : RVs w G x.cells v.cells ∧ ∀ u ∈ v.cells.toList, u.oneCell' = true := by
  have hu : x ≠ .undef := by intro e; subst e; simp [AV.cells, AV.isCell] at hc
  have hR := hx.cells hu
  refine ⟨hR, fun u hu => ?_⟩
  obtain ⟨j, hj, rfl⟩ := List.getElem_of_mem hu
  have hj' : j < x.cells.length := by rw [← hR.1]; simpa using hj
  have h4 := (hR.2 j hj').one (List.all_eq_true.1 hc _ (List.getElem_mem _))
  have hg := getD_some (xs := v.cells) (i := j) (by simpa using hj)
  rw [Array.getElem_toList]
  rw [Array.getElem?_eq_getElem (by simpa using hj)] at hg
  rw [Option.some.inj hg]
  exact h4

theorem evBox_ok {t : Nat} {x : Operand} (h : Rel st a w G X F) (hX : ∀ b, w.heap.size ≤ b → X b) (hF : F nid) (hop : o.op = .box t x) (he : evBox nid o.dst (st.val x) st = some st') :
    Done false P o a w G X (fun i => F i ∧ i ≠ nid) st' := by
  have hx := h.sees.val x
  unfold evBox at he
  split at he
  · rename_i hc
    obtain ⟨hR, hone⟩ := cells_one hx hc
    obtain ⟨hr, hs⟩ := h.newBox (T := t) hX hF (fun y hy => .inl (List.all_eq_true.1 hc y hy)) hone hR
    refine done_value hs hr (.ptr _ _ w.heap.size (by simp [Gh.addBox])) ?_ he
    simp only [execOp, hop]
    simp [Instr.box, newVar, run_newRow]
  · simp at he

/-! ### a store into a variable -/
theorem Rel.setBox (h : Rel st a w G X F) {id b : Nat} {cs cs' : List AV} {vs vs' : Array Value} {T : TypeId} (hb : st.box id = some cs) (hμ : G.μ id = some b) (hh : w.heap[b]? = some (.cells vs T (0, 0)))
    (hsz : vs'.size = vs.size) (hc : ∀ y ∈ cs', y.isCell = true ∨ y = .undef) (ho : ∀ v ∈ vs'.toList, v.oneCell' = true) (hR : RVs w G cs' vs') :
    Rel (st.setBox id cs') a (w.setRow b vs') G X F ∧ Step false w (w.setRow b vs') G G X := by
  have hi := h.inv
  have hlt := (hi.box id b hμ).2.1
  have hset : (w.setRow b vs').heap[b]? = some (.cells vs' T (0, 0)) := setRow_heap w b vs vs' T _ hh
  have hoth : ∀ k, k ≠ b → (w.setRow b vs').heap[k]? = w.heap[k]? := fun k hk => setRow_other w b k _ (fun e => hk e)
  have hsize : (w.setRow b vs').heap.size = w.heap.size := by simp
  have hcell : ∀ fl c o, G.S fl c o → (w.setRow b vs').cell? ⟨c, o, none⟩ = w.cell? ⟨c, o, none⟩ := by
    intro fl c o hs
    exact World.cell?_of_block (hoth c (fun e => hi.sBox fl c o id hs (by rw [e]; exact hμ)))
  have hk : Keep w (w.setRow b vs') G G (fun _ => False) := {
    S := fun _ _ _ hs => hs
    cell := hcell
    row := fun i _ hal => ⟨hal, rfl, rfl, fun g hg => hoth g (fun e => hi.rowBox i id b hal (by rw [← e]; exact hg) hμ)⟩
    box := fun _ _ hb => hb }
  refine ⟨⟨h.size, h.defers, fun i => hk.rv (h.slot i), fun i ds hd => ?_, ?_, h.free⟩, ?_⟩
  · simp only [St.box, St.setBox, look_cons] at hd
    split at hd
    · rename_i e
      subst e
      obtain rfl := Option.some.inj hd
      exact ⟨b, vs', T, hμ, hset, hR.1, hc, ho, fun j hj => hk.rv (hR.2 j hj)⟩
    · rename_i e
      exact (h.box i ds hd).keep hk (fun c hc => hoth c (fun e2 => e (hi.boxes i id b (by rw [← e2]; exact hc) hμ)))
  · exact {
      nb := by rw [hsize]; exact hi.nb
      row := fun i g hal hg => by rw [hsize]; exact hi.row i g hal hg
      box := fun i c hc => by rw [hsize]; exact hi.box i c hc
      rows := hi.rows
      boxes := hi.boxes
      rowBox := hi.rowBox
      lt := fun fl c o hs => by rw [hsize]; exact hi.lt fl c o hs
      old := hi.old
      new := fun c o hs => by
        obtain ⟨h1, cur, e, h2⟩ := hi.new c o hs
        exact ⟨h1, cur, e, (hoth c (fun e2 => hi.sBox _ c o id hs (by rw [e2]; exact hμ))).trans h2⟩
      sBox := hi.sBox
      sRow := hi.sRow }
  · exact ⟨rfl, rfl, rfl, by rw [hsize]; exact Nat.le_refl _, fun c _ hx => hoth c (fun e => hx (by rw [e]; exact (hi.box id b hμ).1)), rfl, fun _ _ _ _ hs => hs, fun fl c o _ hs => hcell fl c o hs, fun _ _ _ hs => .inl hs⟩

/-- Cells written over cells, as lists. -/
theorem RVs.over {cs xs : List AV} {vs us : Array Value} {off : Nat} (h : RVs w G cs vs) (hx : RVs w G xs us) (hb : off + xs.length ≤ cs.length) :
    RVs w G (cs.take off ++ xs ++ cs.drop (off + xs.length)) (vs.toList.take off ++ us.toList ++ vs.toList.drop (off + xs.length)).toArray := by
  have h1 := h.1
  have h2 := hx.1
  refine ⟨by simp [h1, h2], fun j hj => ?_⟩
  have hg : ∀ (l : List Value), l.toArray.getD j undef = l.getD j undef := by intro l; simp [Array.getD_eq_getD_getElem?, List.getD_eq_getElem?_getD]
  rw [hg, List.getD_eq_getElem?_getD]
  simp only [List.length_append, List.length_take, List.length_drop] at hj
  by_cases c1 : j < off
  · rw [List.getElem_append_left (by simp; omega), List.getElem_append_left (by simp; omega), List.getElem_take, List.getElem?_append_left (by simp; omega), List.getElem?_append_left (by simp; omega), List.getElem?_take_of_lt c1, Array.getElem?_toList, ← Array.getD_eq_getD_getElem?]
    exact h.2 _ _
  · by_cases c2 : j < off + xs.length
    · rw [List.getElem_append_left (by simp; omega), List.getElem_append_right (by simp; omega), List.getElem?_append_left (by simp; omega), List.getElem?_append_right (by simp; omega)]
      have e1 : j - (List.take off cs).length = j - off := by simp; omega
      have e2 : j - (List.take off vs.toList).length = j - off := by simp; omega
      simp only [e1, e2]
      rw [Array.getElem?_toList, ← Array.getD_eq_getD_getElem?]
      exact hx.2 _ _
    · rw [List.getElem_append_right (by simp; omega), List.getElem?_append_right (by simp; omega)]
      have e1 : j - (List.take off cs ++ xs).length = j - (off + xs.length) := by simp; omega
      have e2 : j - (List.take off vs.toList ++ us.toList).length = j - (off + xs.length) := by simp; omega
      simp only [e1, e2, List.getElem_drop, List.getElem?_drop]
      have e3 : off + xs.length + (j - (off + xs.length)) = j := by omega
      simp only [e3]
      rw [Array.getElem?_toList, ← Array.getD_eq_getD_getElem?]
      exact h.2 _ _

theorem evStoreBox_ok {t id off : Nat} {p x : Operand} {ti : TI} {cs : List AV} (h : Rel st a w G X F) (hop : o.op = .store t p x) (hti : tiOf P t = some ti) (hp : st.val p = .ptr id off) (hb : st.box id = some cs)
    (hl : (st.val x).cells.length = ti.size) (hc : (st.val x).cells.all AV.isCell = true) (hfit : off + ti.size ≤ cs.length)
    (he : (st.setBox id (cs.take off ++ (st.val x).cells ++ cs.drop (off + ti.size))).put o.dst .undef = some st') :
    Done false P o a w G X F st' := by
  have hpv := h.sees.val p
  rw [hp] at hpv
  obtain ⟨b, hbv, hμ⟩ : ∃ b, a.eval p = .pointer (some ⟨b, off, none⟩) ∧ G.μ id = some b := by
    generalize a.eval p = v at hpv
    cases hpv with
    | ro hr => cases hr
    | ptr _ _ b hμ => exact ⟨b, rfl, hμ⟩
  obtain ⟨hR, hone⟩ := cells_one (h.sees.val x) hc
  obtain ⟨b', vs, T, h1, h2, h3, h4, h5, h6⟩ := h.box id cs hb
  obtain rfl : b = b' := by rw [hμ] at h1; simpa using h1
  have hover := RVs.over ⟨h3, h6⟩ hR (by rw [hl]; exact hfit)
  rw [hl] at hover
  have hvl : (a.eval x).cells.size = ti.size := by rw [hR.1, hl]
  obtain ⟨hr, hs⟩ := h.setBox hb hμ h2 (by simp [h3, hvl]; omega) (fun y hy => by
      simp only [List.mem_append] at hy
      rcases hy with (hy | hy) | hy
      · exact h4 y (List.mem_of_mem_take hy)
      · exact .inl (List.all_eq_true.1 hc y hy)
      · exact h4 y (List.mem_of_mem_drop hy)) (fun v hv => by
      simp only [List.mem_append] at hv
      rcases hv with (hv | hv) | hv
      · exact h5 v (List.mem_of_mem_take hv)
      · exact hone v hv
      · exact h5 v (List.mem_of_mem_drop hv)) hover
  refine ⟨_, G, hs, .inr ⟨?_, (hr.put (rvUndef _) he).1⟩⟩
  have hst := run_storeCells_at P b off T (a.eval x).cells.toList 0 vs w h2 (by simp [h3, hvl]; omega) hone
  simp only [Nat.add_zero, Array.length_toList, hvl] at hst
  have hsz := run_size hti w
  simp only [execOp, hop, hbv]
  simp [Instr.storeAt, Instr.sureAddr, storeVar, hsz, hvl, hst]
end
end Go.Proofs.Ytogjbacgkcodmaa.Flat
/-
Rows: literals, make, append, elements written.
-/
set_option linter.unusedVariables false
set_option linter.unusedSimpArgs false
namespace Go.Proofs.Ytogjbacgkcodmaa.Flat
section
variable {P : Program} {st st' : St} {a : Act} {w : World} {G : Gh} {X F : Nat → Prop} {nid : Nat} {o : Oper}

/-! ### append -/
theorem rowOf_ok {x : AV} {v : Value} {ys : List AV} {size : Nat} (hx : RV w G x v) (h : rowOf x = some ys) (hsz : ∀ y ∈ ys, y.cells.length = size) :
    ∃ (A : Option Addr) (c : Nat) (news : List Value), v = .slice A ys.length c ∧ (A = none → ys.length = 0) ∧ (A = none → c = 0) ∧ news.length = ys.length * size ∧ (∀ ad, A = some ad → ∀ j u, news[j]? = some u → w.cell? (ad.add j) = some u) ∧
      (∀ u ∈ news, u.oneCell' = true) ∧ (∀ y ∈ flat ys, y.isCell = true) ∧ ∀ j (hj : j < (flat ys).length), RO w G.S (flat ys)[j] (news.getD j undef) := by
  have nil_case : ∀ {A : Option Addr} {c : Nat}, (A = none → c = 0) → ys = [] → v = .slice A 0 c → ∃ (A : Option Addr) (c : Nat) (news : List Value), v = .slice A ys.length c ∧ (A = none → ys.length = 0) ∧ (A = none → c = 0) ∧ news.length = ys.length * size ∧ (∀ ad, A = some ad → ∀ j u, news[j]? = some u → w.cell? (ad.add j) = some u) ∧
      (∀ u ∈ news, u.oneCell' = true) ∧ (∀ y ∈ flat ys, y.isCell = true) ∧ ∀ j (hj : j < (flat ys).length), RO w G.S (flat ys)[j] (news.getD j undef) := by
    intro A c hA hy hv
    subst hy
    exact ⟨A, c, [], hv, fun _ => rfl, hA, by simp, fun _ _ j u h => by simp at h, by simp, by simp [flat], fun j hj => by simp [flat] at hj⟩
  cases x with
  | nils =>
    obtain rfl : [] = ys := by simpa [rowOf] using h
    exact nil_case (fun _ => rfl) rfl hx.nils_inv
  | sl fl xs =>
    obtain rfl : xs = ys := by simpa [rowOf] using h
    cases hx with
    | ro hr =>
      cases hr with
      | slNil _ _ A c hA => exact nil_case hA rfl rfl
      | sl _ _ _ ad c sz cv hne hc hsp hsz' hcell hS hr =>
        obtain ⟨y, hy⟩ := List.exists_mem_of_ne_nil xs hne
        obtain rfl : sz = size := by rw [← hsz' y hy, hsz y hy]
        have hfl : (flat xs).length = xs.length * sz := flat_length hsz'
        refine ⟨some ad, c, (List.range (xs.length * sz)).map cv, rfl, by simp, by simp, by simp, fun ad' e j u hj => ?_, fun u hu => ?_, hcell, fun j hj => ?_⟩
        · obtain rfl : ad = ad' := by simpa using e
          simp only [List.getElem?_map, Option.map_eq_some_iff] at hj
          obtain ⟨k, hk, rfl⟩ := hj
          obtain ⟨h1, h2⟩ := List.getElem?_eq_some_iff.1 hk
          simp at h1 h2
          subst h2
          exact (hS j h1).2
        · obtain ⟨k, hk, rfl⟩ := List.mem_map.1 hu
          have hk' : k < (flat xs).length := by rw [hfl]; simpa using hk
          exact (hr k hk').one (hcell _ (List.getElem_mem _))
        · have : ((List.range (xs.length * sz)).map cv).getD j undef = cv j := by
            have hj' : j < xs.length * sz := by rw [← hfl]; exact hj
            simp [List.getD_eq_getElem?_getD, hj']
          rw [this]
          exact (hr j hj).mono sub_le (fun _ _ _ _ => rfl)
  | own id fz e sz xs =>
    obtain rfl : xs = ys := by simpa [rowOf] using h
    obtain ⟨rfl, hk⟩ := hx.own_inv
    obtain ⟨hal, hlim, hsz', hcell, inner, ho, hr⟩ := hk
    rcases ho.2 with ⟨h5, h6⟩ | ⟨g, cap, cur, h5, h0, h7, h6, hm, hs, _⟩
    · obtain rfl : xs = [] := List.eq_nil_of_length_eq_zero h6
      exact nil_case (fun _ => rfl) rfl h5
    · by_cases hne : xs = []
      · subst hne
        exact nil_case (A := some ⟨g, 0, none⟩) (fun e => by simp at e) rfl h5
      · obtain ⟨y, hy⟩ := List.exists_mem_of_ne_nil xs hne
        obtain rfl : sz = size := by rw [← hsz' y hy, hsz y hy]
        have hfl : (flat xs).length = xs.length * sz := flat_length hsz'
        refine ⟨some ⟨g, 0, none⟩, cap, inner, h5, by simp, by simp, ho.1, fun ad' e j u hj => ?_, fun u hu => ?_, hcell, hr⟩
        · obtain rfl : (⟨g, 0, none⟩ : Addr) = ad' := by simpa using e
          exact ho.cells (g := g) (by rw [h5]; rfl) j u hj
        · obtain ⟨k, hk, rfl⟩ := List.getElem_of_mem hu
          have hk' : k < (flat xs).length := by rw [hfl, ← ho.1]; exact hk
          have := (hr k hk').one (hcell _ (List.getElem_mem _))
          rwa [List.getD_eq_getElem?_getD, List.getElem?_eq_getElem hk] at this
  | _ => simp [rowOf] at h

theorem zeroOK_some {te : TI} (h : zeroOK te = true) : ∃ z, te.zero = some z ∧ z.cells.size = te.size := by
  unfold zeroOK at h
  split at h
  · rename_i z hz; exact ⟨z, hz, of_decide_eq_true h⟩
  · simp at h

theorem evAppend_ok {t u : Nat} {s x : Operand} {as : Array Operand} {ts : Array TypeId} (h : Rel st a w G X F) (hX : ∀ b, w.heap.size ≤ b → X b) (hF : F nid)
    (hop : o.op = .call { callee := .builtin .append, args := as, argTypes := ts }) (has : as.toList = [s, x]) (hts : ts.toList = [t, u])
    (he : evAppend P t u (st.val s) (st.val x) nid o.dst st = some st') : Done false P o a w G X (fun i => F i ∧ i ≠ nid) st' := by
  unfold evAppend at he
  split at he
  · rename_i ht
    obtain ⟨hst, rfl⟩ := ht
    obtain ⟨ti, hti, he⟩ := Option.bind_eq_some_iff.1 he
    obtain ⟨te, hte, he⟩ := Option.bind_eq_some_iff.1 he
    obtain ⟨ys, hys, he⟩ := Option.bind_eq_some_iff.1 he
    have hu := tagOf_slice (of_decide_eq_true hst) hti
    split at he
    · rename_i hc
      obtain ⟨hc1, hc2, hc3⟩ := hc
      obtain ⟨z, hz, hzs0⟩ := zeroOK_some hc3
      have hsz : ∀ y ∈ ys, y.cells.length = te.size := fun y hy => by simpa using List.all_eq_true.1 hc1 y hy
      obtain ⟨A, c, news, hv, hA, hA0, hnl, hncell, hnone, hncells, hnr⟩ := rowOf_ok (h.sees.val x) hys hsz
      obtain ⟨ie, de, hie, hde, rfl⟩ := tiOf_some hte
      simp only at hz hc2 hsz hnl he
      obtain rfl : as = #[s, x] := by cases as; simpa using has
      obtain rfl : ts = #[u, u] := by cases ts; simpa using hts
      have hrun : ∀ {v' w'}, (Builtin.append_ #[u, u] o.type #[a.eval s, a.eval x]).run P w = .ok v' w' → (execOp a.eval o).run P w = .ok (.value v') w' := by
        intro v' w' hr
        have hb : execOp a.eval o = (do let v ← Builtin.append_ #[u, u] o.type (#[s, x].map a.eval); pure (Next.value v)) := by
          obtain ⟨dst, op, ty, pos, after, guard⟩ := o
          simp only at hop
          subst hop
          rfl
        rw [hb]
        simp only [List.map_toArray, List.map_cons, List.map_nil, Sem.run_bind, hr, Result.andThen_ok]
        rfl
      have hzs : z.cells.size = ie.size := hzs0
      cases hs : st.val s with
      | nils =>
        rw [hs] at he
        simp only at he
        split at he
        · rename_i hb
          have hsv := h.sees.val s
          rw [hs] at hsv
          have e1 := hsv.nils_inv
          have hown : w.ownsRow 0 ti.elem ie.size (.slice none 0 0) 0 [] := World.ownsRow_nil w 0 ti.elem ie.size
          obtain ⟨v', w', hr, ho', h1, h2, h3, h4, h5, h6, h7, h8⟩ := append_any (P := P) (w := w) (t := u) (ty := o.type) (e := ti.elem) (i := ie) (z := z) hu hie hz hzs hc2 hown A ys.length c news hA hA0 hnl hncell hnone (by simp only [maxLen]; omega) (by rw [Nat.zero_add]; omega)
          rw [← e1, ← hv] at hr
          have hcell : ∀ fl b o, G.S fl b o → w'.cell? ⟨b, o, none⟩ = w.cell? ⟨b, o, none⟩ := fun fl b o hs => World.cell?_of_block (h5 b (h.inv.lt fl b o hs) (by simp [Value.ownBlock]))
          simp only [Nat.zero_add, List.nil_append] at ho'
          by_cases hy : ys = []
          · subst hy
            have e2 := h8 rfl rfl
            subst e2
            obtain ⟨hr1, hs1, hx1⟩ := h.newRow (w' := w') (nid := nid) (dead := []) (v := .slice none 0 0) (L := 0) (fz := false) (e := ti.elem) (sz := ie.size) (xs := []) hX hF (by simp) h1 h2 h3 h4 (fun k hk _ => h5 k hk (by simp [Value.ownBlock])) hcell (by simp) (fun g hg => by simp [Value.ownBlock] at hg) (by simp) (by simp) (by simp [flat]) (inner := news) ho' (fun j hj => by simp [flat] at hj)
            exact done_value hs1 hr1 .nils (hrun hr) he
          · obtain ⟨hr1, hs1, hx1⟩ := h.newRow (w' := w') (nid := nid) (dead := []) (v := v') (L := 0) (fz := false) (e := ti.elem) (sz := ie.size) (xs := ys) hX hF (by simp) h1 h2 h3 h4 (fun k hk _ => h5 k hk (by simp [Value.ownBlock])) hcell (by simp)
              (fun g hg => by
                rcases h7 with h7 | h7
                · rw [h7] at hg; simp [Value.ownBlock] at hg
                · have hlt := (ho'.lt g hg).2
                  rw [h7] at hg
                  obtain rfl : w.heap.size = g := by simpa using hg
                  exact .inl ⟨Nat.le_refl _, hlt⟩) (by simp) hsz hncells ho' hnr
            have he' : (st.scrub []).put o.dst (.own nid false ti.elem ie.size ys) = some st' := by
              cases ys with
              | nil => exact absurd rfl hy
              | cons y r => exact he
            exact done_value hs1 hr1 hx1 (hrun hr) he'
        · simp at he
      | own id fz e sz xs =>
        rw [hs] at he
        simp only at he
        split at he
        · rename_i hb
          obtain ⟨rfl, rfl, hb1, hb2⟩ := hb
          have hsv := h.sees.val s
          rw [hs] at hsv
          obtain ⟨e1, hk⟩ := hsv.own_inv
          have hk' := hk
          obtain ⟨hal, hlim, hsz', hcell', inner, ho, hr⟩ := hk
          obtain ⟨v', w', hr', ho', h1, h2, h3, h4, h5, h6, h7, h8⟩ := append_any (P := P) (w := w) (t := u) (ty := o.type) (e := ti.elem) (i := ie) (z := z) hu hie hz hzs hc2 ho A ys.length c news hA hA0 hnl hncell hnone (by simp only [maxLen]; omega) (by omega)
          rw [← e1, ← hv] at hr'
          have hlim' : G.lim id ≤ xs.length * ie.size := by split at hlim <;> omega
          have hcell : ∀ fl b o, G.S fl b o → w'.cell? ⟨b, o, none⟩ = w.cell? ⟨b, o, none⟩ := by
            intro fl b o hs
            by_cases hb : (G.ρ id).ownBlock = some b
            · exact (h6 b hb).2 o (Nat.lt_of_lt_of_le (h.inv.sRow fl b o id hs hal hb) hlim')
            · exact World.cell?_of_block (h5 b (h.inv.lt fl b o hs) (fun e => hb e.symm))
          have hfx : (flat xs).length = xs.length * ie.size := flat_length hsz'
          obtain ⟨hr1, hs1, hx1⟩ := h.newRow (w' := w') (nid := nid) (dead := [id]) (v := v') (L := G.lim id) (fz := fz) (e := ti.elem) (sz := ie.size) (xs := xs ++ ys) hX hF (by simpa using hal) h1 h2 h3 h4
            (fun k hk hd => h5 k hk (fun e => hd id (by simp) e.symm)) hcell (fun i hi b hb => by obtain rfl : i = id := (by simpa using hi); obtain ⟨cur, hc⟩ := (h6 b hb).1; exact ⟨cur, _, hc⟩)
            (fun g hg => by
              rcases h7 with h7 | h7
              · exact .inr ⟨id, by simp, by rw [← h7]; exact hg, Nat.le_refl _⟩
              · have hlt := (ho'.lt g hg).2
                rw [h7] at hg
                obtain rfl : w.heap.size = g := by simpa using hg
                exact .inl ⟨Nat.le_refl _, hlt⟩)
            (by split at hlim
                · rename_i hfz; rw [if_pos hfz, List.length_append, Nat.add_mul]; omega
                · rename_i hfz; rw [if_neg hfz]; exact hlim)
            (fun x hx => (List.mem_append.1 hx).elim (hsz' x) (hsz x))
            (fun y hy => by rw [flat_append] at hy; exact (List.mem_append.1 hy).elim (hcell' y) (hncells y))
            (inner := inner ++ news) (by rw [List.length_append]; exact ho')
            (fun j hj => by
              simp only [flat_append]
              have hil : inner.length = (flat xs).length := by rw [hfx]; exact ho.1
              by_cases hjl : j < (flat xs).length
              · rw [List.getElem_append_left hjl, List.getD_eq_getElem?_getD, List.getElem?_append_left (by omega), ← List.getD_eq_getElem?_getD]
                exact hr j hjl
              · rw [List.getElem_append_right (by omega), List.getD_eq_getElem?_getD, List.getElem?_append_right (by omega), ← List.getD_eq_getElem?_getD, hil]
                exact hnr _ _)
          exact done_value hs1 hr1 hx1 (hrun hr') he
        · simp at he
      | _ => simp [hs] at he
    · simp at he
  · simp at he
end
end Go.Proofs.Ytogjbacgkcodmaa.Flat
/-
Row literals, make, elements written.
-/
set_option linter.unusedVariables false
set_option linter.unusedSimpArgs false
namespace Go.Proofs.Ytogjbacgkcodmaa.Flat
section
variable {P : Program} {st st' : St} {a : Act} {w : World} {G : Gh} {X F : Nat → Prop} {nid : Nat} {o : Oper}

/-! ### make -/
theorem run_make_row (t e : TypeId) (i : TypeInfo) (z : Value) (ht : P.underlying t = some (.slice e)) (hi : P.info? e = some i) (hz : i.zero = some z) (kl kc : IntKind) (n : Nat) (hb : i.bytes * n ≤ 281474976710656) (h63 : n ≤ maxLen) (w : World) :
    (Instr.makeSlice t (.int kl (n : Int)) (.int kc (n : Int))).run P w = .ok (.slice (some ⟨w.heap.size, 0, none⟩) n n) (w.alloc (.cells (madeCells z.cells (n * i.size)) e)) := by
  have h63' : (n : Int) ≤ 9223372036854775807 := by
    have h := h63
    simp [maxLen] at h
    omega
  have hb' : (i.bytes : Int) * (n : Int) ≤ 281474976710656 := by
    have h : ((i.bytes * n : Nat) : Int) ≤ 281474976710656 := by omega
    rwa [Int.natCast_mul] at h
  have hr := run_make (P := P) w t e i z ht hi hz kl kc n n (by omega) (Int.le_refl _) hb' h63'
  simpa only [Int.toNat_natCast] using hr

theorem AV.seal_cells (x : AV) : x.shutV.cells = x.cells.map AV.shutV ∨ ∃ y, x.cells = [x] ∧ x.shutV = y ∧ x.shutV.cells = [y] := by
  cases x <;> first
    | (left; simp only [AV.shutV, AV.mapO, AV.cells, AV.mapOs_eq]; rfl)
    | exact .inr ⟨_, rfl, rfl, rfl⟩
theorem flat_replicate (n : Nat) (x : AV) : ∀ j, j < n * x.cells.length → 0 < x.cells.length → (flat (List.replicate n x))[j]? = x.cells[j % x.cells.length]? := by
  induction n with
  | zero => intro j hj; simp at hj
  | succ n ih =>
    intro j hj h0
    rw [List.replicate_succ, flat_cons]
    by_cases hlt : j < x.cells.length
    · rw [List.getElem?_append_left hlt, Nat.mod_eq_of_lt hlt]
    · rw [Nat.add_mul, Nat.one_mul] at hj
      have e := Nat.mod_eq_sub_mod (show x.cells.length ≤ j by omega)
      rw [List.getElem?_append_right (by omega), ih _ (by omega) h0, e]
theorem ofCell_seal {v : Value} {a : AV} {S : Cells} (h : ofCell v = some a) : RO w S a.shutV v ∧ a.shutV.isCell = true := by
  unfold ofCell at h
  split at h
  · obtain rfl := Option.some.inj h; exact ⟨.int _ _ _, rfl⟩
  · obtain rfl := Option.some.inj h; exact ⟨.bool _ _, rfl⟩
  · obtain rfl := Option.some.inj h; exact ⟨.str _ _, rfl⟩
  · obtain rfl := Option.some.inj h; exact ⟨.slNil _ _ _ _ (fun _ => rfl), rfl⟩
  · simp at h
theorem ofCells_seal {S : Cells} : ∀ {vs : List Value} {cs : List AV}, ofCells vs = some cs → cs.length = vs.length ∧ (∀ y ∈ cs, y.shutV.isCell = true) ∧ ∀ j (h : j < cs.length), RO w S cs[j].shutV (vs.getD j undef)
  | [], cs, h => by
    obtain rfl : [] = cs := by simpa [ofCells] using h
    exact ⟨rfl, by simp, fun j hj => by simp at hj⟩
  | v :: vs, cs, h => by
    simp only [ofCells] at h
    obtain ⟨a, ha, h⟩ := Option.bind_eq_some_iff.1 h
    obtain ⟨r, hr, rfl⟩ := Option.map_eq_some_iff.1 h
    obtain ⟨h1, h2, h3⟩ := ofCells_seal hr
    obtain ⟨h4, h5⟩ := ofCell_seal ha
    refine ⟨by simp [h1], fun y hy => ?_, fun j hj => ?_⟩
    · rcases List.mem_cons.1 hy with rfl | hy
      · exact h5
      · exact h2 y hy
    · cases j with
      | zero => exact h4
      | succ j => simpa using h3 j (by simpa using hj)
/-- The element that make lays everywhere. -/
theorem zeroElem_ok {te : TI} {x : AV} {S : Cells} (h : zeroElem te = some x) (h0 : 0 < te.size) : ∃ z, te.zero = some z ∧ x.cells.length = te.size ∧ z.cells.size = te.size ∧ (∀ y ∈ x.cells, y.isCell = true) ∧
    ∀ j (h : j < x.cells.length), RO w S x.cells[j] (z.cells.getD j undef) := by
  unfold zeroElem at h
  obtain ⟨z, hz, h⟩ := Option.bind_eq_some_iff.1 h
  obtain ⟨cs, hcs, h⟩ := Option.bind_eq_some_iff.1 h
  obtain ⟨h1, h2, h3⟩ := ofCells_seal (w := w) (S := S) hcs
  have hg : ∀ j, z.cells.toList.getD j undef = z.cells.getD j undef := fun j => by rw [List.getD_eq_getElem?_getD, Array.getElem?_toList, ← Array.getD_eq_getD_getElem?]
  split at h
  · rename_i hl
    have hzs : z.cells.size = te.size := by rw [← hl, h1]; simp
    split at h
    · obtain rfl := Option.some.inj h
      have hc : (AV.shutV (.agg cs)).cells = cs.map AV.shutV := by simp only [AV.shutV, AV.mapO, AV.cells, AV.mapOs_eq]; rfl
      refine ⟨z, hz, by rw [hc]; simpa using hl, hzs, fun y hy => ?_, fun j hj => ?_⟩
      · rw [hc] at hy
        obtain ⟨y0, hy0, rfl⟩ := List.mem_map.1 hy
        exact h2 y0 hy0
      · have hj' : j < cs.length := by rw [hc] at hj; simpa using hj
        have e : (AV.shutV (.agg cs)).cells[j] = cs[j].shutV := by simp [hc]
        rw [e, ← hg]
        exact h3 j hj'
    · split at h
      · rename_i c
        obtain rfl := Option.some.inj h
        have h4 := h2 c (by simp)
        have hc : c.shutV.cells = [c.shutV] := by
          cases hh : c.shutV <;> first | rfl | (rw [hh] at h4; simp [AV.isCell] at h4)
        refine ⟨z, hz, by rw [hc]; simpa using hl, hzs, fun y hy => ?_, fun j hj => ?_⟩
        · rw [hc] at hy; obtain rfl := List.mem_singleton.1 hy; exact h4
        · have hj0 : j = 0 := by rw [hc] at hj; simpa using hj
          subst hj0
          have e : c.shutV.cells[0] = c.shutV := by simp [hc]
          rw [e, ← hg]
          exact h3 0 (by simp)
      · simp at h
  · simp at h

theorem evMakeSlice_ok {t : Nat} {l c : Operand} (h : Rel st a w G X F) (hX : ∀ b, w.heap.size ≤ b → X b) (hF : F nid) (hop : o.op = .makeSlice t l c) (he : evMakeSlice P t (st.val l) (st.val c) nid o.dst st = some st') :
    Done false P o a w G X (fun i => F i ∧ i ≠ nid) st' := by
  unfold evMakeSlice at he
  split at he
  · rename_i hst
    obtain ⟨ti, hti, he⟩ := Option.bind_eq_some_iff.1 he
    obtain ⟨te, hte, he⟩ := Option.bind_eq_some_iff.1 he
    obtain ⟨x, hx, he⟩ := Option.bind_eq_some_iff.1 he
    have hu := tagOf_slice (of_decide_eq_true hst) hti
    have h1 := h.sees.val l
    have h2 := h.sees.val c
    cases hl : st.val l with
    | int kl n =>
      cases hc : st.val c with
      | int kc m =>
        rw [hl, hc] at he
        rw [hl] at h1
        rw [hc] at h2
        simp only at he
        split at he
        · rename_i hcond
          obtain ⟨rfl, hn0, hb, h63, hsz0⟩ := hcond
          obtain ⟨n, rfl⟩ := Int.eq_ofNat_of_zero_le hn0
          simp only [Int.toNat_natCast] at hb h63 he
          obtain ⟨z, hz, hxl, hzs, hxc, hxr⟩ := zeroElem_ok (w := w) (S := G.S) hx hsz0
          obtain ⟨ie, de, hie, hde, rfl⟩ := tiOf_some hte
          simp only at hz hb hsz0 hxl hzs he
          have hm : n ≤ maxLen := by simp only [maxLen]; omega
          have hrun := run_make_row t ti.elem ie z hu hie hz kl kc n hb hm w
          have hown : (w.alloc (.cells (madeCells z.cells (n * ie.size)) ti.elem)).ownsRow 0 ti.elem ie.size (.slice (some ⟨w.heap.size, 0, none⟩) n n) n (madeCells z.cells (n * ie.size)).toList :=
            World.ownsRow_lit w _ n (Nat.zero_le _) hm (size_madeCells _ _)
          have hsz : ∀ y ∈ List.replicate n x, y.cells.length = ie.size := fun y hy => by rw [List.eq_of_mem_replicate hy]; exact hxl
          have hfl : (flat (List.replicate n x)).length = n * ie.size := by rw [flat_length hsz]; simp
          obtain ⟨hr1, hs1, hx1⟩ := h.newRow (w' := w.alloc (.cells (madeCells z.cells (n * ie.size)) ti.elem)) (nid := nid) (dead := []) (v := .slice (some ⟨w.heap.size, 0, none⟩) n n) (L := 0) (fz := false) (e := ti.elem) (sz := ie.size) (xs := List.replicate n x) hX hF (by simp) rfl rfl rfl (by simp only [World.alloc, Array.size_push]; omega)
            (fun k hk _ => heap_alloc_eq hk) (fun fl b o hs => cell_alloc (h.inv.lt fl b o hs)) (by simp) (fun g hg => by
              obtain rfl : w.heap.size = g := by simpa [Value.ownBlock] using hg
              exact .inl ⟨Nat.le_refl _, by simp only [World.alloc, Array.size_push]; omega⟩) (by simp) hsz (fun y hy => by
              simp only [flat, List.mem_flatMap] at hy
              obtain ⟨x', hx', hy⟩ := hy
              rw [List.eq_of_mem_replicate hx'] at hy
              exact hxc y hy) (inner := (madeCells z.cells (n * ie.size)).toList) (by rw [List.length_replicate]; exact hown) (fun j hj => by
              have hj' : j < n * ie.size := by rw [← hfl]; exact hj
              have hmod : j % ie.size < ie.size := Nat.mod_lt _ hsz0
              have e1 := flat_replicate n x j (by rw [hxl]; exact hj') (by omega)
              rw [List.getElem?_eq_getElem hj, hxl, List.getElem?_eq_getElem (by omega)] at e1
              rw [Option.some.inj e1]
              have e2 : (madeCells z.cells (n * ie.size)).toList.getD j undef = z.cells.getD (j % ie.size) undef := by
                rw [List.getD_eq_getElem?_getD, Array.getElem?_toList]
                unfold madeCells
                rw [Array.getElem?_map, Array.getElem?_range, if_pos hj']
                simp only [Option.map_some, Option.getD_some, hzs]
                rw [getElem!_pos z.cells _ (by omega)]
                have := getD_some (xs := z.cells) (i := j % ie.size) (by omega)
                rw [Array.getElem?_eq_getElem (by omega)] at this
                exact Option.some.inj this
              rw [e2]
              exact hxr _ _)
          have he2 : (st.scrub []).put o.dst (.own nid false ti.elem ie.size (List.replicate n x)) = some st' := he
          refine done_value hs1 hr1 hx1 ?_ he2
          simp only [execOp, hop, h1.int_inv, h2.int_inv, Sem.run_bind, hrun, Result.andThen_ok]
          rfl
        · simp at he
      | _ => simp [hl, hc] at he
    | _ => simp [hl] at he
  · simp at he
end
end Go.Proofs.Ytogjbacgkcodmaa.Flat
/-
Row literals, and elements written.
-/
set_option linter.unusedVariables false
set_option linter.unusedSimpArgs false
namespace Go.Proofs.Ytogjbacgkcodmaa.Flat
/-- Cells that stand for cells, whatever that means. -/
def Rs (R : AV → Value → Prop) (cs : List AV) (vs : Array Value) : Prop := vs.size = cs.length ∧ ∀ j (h : j < cs.length), R cs[j] (vs.getD j undef)
theorem Rs.put {R : AV → Value → Prop} {cs : List AV} {vs : Array Value} {xs : List AV} {us : Array Value} {off : Nat} (h : Rs R cs vs) (hx : Rs R xs us) (hb : off + xs.length ≤ cs.length) :
    Rs R (cs.take off ++ xs ++ cs.drop (off + xs.length)) (us.zipIdx.foldl (fun cs (p : Value × Nat) => cs.setIfInBounds (off + p.2) p.1) vs) := by
  rw [← Array.foldl_toList, Array.toList_zipIdx]
  have hl : off + 0 + us.toList.length ≤ vs.size := by simp [hx.1, h.1]; omega
  refine ⟨?_, fun j hj => ?_⟩
  · rw [put_size, h.1]; simp; omega
  · rw [put_get off _ 0 vs j hl]
    simp only [Nat.add_zero, Array.length_toList, hx.1]
    by_cases h1 : j < off
    · rw [if_neg (by omega), List.getElem_append_left (by simp; omega), List.getElem_append_left (by simp; omega), List.getElem_take]
      exact h.2 _ _
    · by_cases h2 : j < off + xs.length
      · rw [if_pos (by omega), List.getElem_append_left (by simp; omega), List.getElem_append_right (by simp; omega)]
        have := hx.2 (j - off) (by omega)
        rw [Array.getD_eq_getD_getElem?] at this
        rw [List.getD_eq_getElem?_getD, Array.getElem?_toList]
        have e : j - (List.take off cs).length = j - off := by simp; omega
        simp only [e]
        exact this
      · rw [if_neg (by omega), List.getElem_append_right (by simp; omega)]
        have e : j = off + xs.length + (j - (List.take off cs ++ xs).length) := by simp; omega
        have := h.2 j (by simp at hj; omega)
        simp only [List.getElem_drop]
        have e2 : cs[off + xs.length + (j - (List.take off cs ++ xs).length)]'(by simp at hj ⊢; omega) = cs[j]'(by simp at hj; omega) := by congr 1; exact e.symm
        rw [e2]
        exact this
theorem fillR_ok {R : AV → Value → Prop} {place : Nat → Option (Nat × Nat)} : ∀ {parts : List (Nat × AV)} {parts' : List (Nat × Value)} {cs cs' : List AV} {vs : Array Value},
    Rs R cs vs → parts.length = parts'.length → (∀ (k i : Nat) (x : AV) (i' : Nat) (v : Value), parts[k]? = some (i, x) → parts'[k]? = some (i', v) → i = i' ∧ Rs R x.cells v.cells) → fillCells place cs parts = some cs' →
    ∃ vs', Instr.fill place vs parts' = some vs' ∧ Rs R cs' vs'
  | [], parts', cs, cs', vs, h, hl, _, hf => by
    obtain rfl : parts' = [] := by cases parts' <;> simp_all
    obtain rfl : cs = cs' := by simpa [fillCells] using hf
    exact ⟨vs, rfl, h⟩
  | (i, x) :: parts, parts', cs, cs', vs, h, hl, hr, hf => by
    cases parts' with
    | nil => simp at hl
    | cons p parts' =>
      obtain ⟨i', v⟩ := p
      obtain ⟨rfl, hxv⟩ := hr 0 i x i' v rfl rfl
      simp only [fillCells] at hf
      obtain ⟨⟨off, size⟩, hpl, hf⟩ := Option.bind_eq_some_iff.1 hf
      simp only at hf
      split at hf
      · rename_i hc
        obtain ⟨hc1, hc2, hc3⟩ := hc
        have hput := h.put (off := off) hxv (by omega)
        rw [hc1] at hput
        obtain ⟨vs', h1, h2⟩ := fillR_ok hput (by simpa using hl) (fun k i x i' v h1 h2 => hr (k + 1) i x i' v (by simpa using h1) (by simpa using h2)) hf
        refine ⟨vs', ?_, h2⟩
        rw [Instr.fill.eq_2, hpl]
        simp only
        rw [if_neg (by simp [hxv.1, hc1, h.1]; omega)]
        exact h1
      · simp at hf
theorem fillCells_seq {size : Nat} (h0 : size ≠ 0) : ∀ (xs : List AV) (k : Nat) (pre : List AV), pre.length = k * size → (∀ x ∈ xs, x.cells.length = size) →
    fillCells (fun i => some (i * size, size)) (pre ++ List.replicate (xs.length * size) .undef) (numbered k xs) = some (pre ++ flat xs)
  | [], k, pre, _, _ => by simp [numbered, fillCells, flat]
  | x :: xs, k, pre, hp, hs => by
    have hx := hs x (by simp)
    have e : (xs.length + 1) * size = size + xs.length * size := by rw [Nat.add_mul]; omega
    simp only [numbered, fillCells, Option.bind_some, List.length_cons]
    rw [if_pos ⟨hx, h0, by simp [hp]; rw [e]; omega⟩]
    have e1 : (pre ++ List.replicate ((xs.length + 1) * size) AV.undef).take (k * size) = pre := by rw [← hp]; exact List.take_left
    have e2 : (pre ++ List.replicate ((xs.length + 1) * size) AV.undef).drop (k * size + size) = List.replicate (xs.length * size) AV.undef := by
      rw [← hp, ← List.drop_drop, List.drop_left, e, List.drop_replicate]
      congr 1
      omega
    rw [e1, e2, fillCells_seq h0 xs (k + 1) (pre ++ x.cells) (by simp [hp, hx, Nat.add_mul]) (fun y hy => hs y (by simp [hy])), flat_cons, List.append_assoc]
theorem elemsOf_ok {agg : Bool} {size : Nat} : ∀ {parts : List (Nat × AV)} {k : Nat} {xs : List AV}, elemsOf agg size k parts = some xs →
    parts.map (fun p => (p.1, p.2.shutV)) = numbered k xs ∧ xs.length = parts.length ∧ (∀ x ∈ xs, x.cells.length = size ∧ x.cells.all AV.isCell = true)
  | [], k, xs, h => by
    obtain rfl : [] = xs := by simpa [elemsOf] using h
    exact ⟨rfl, rfl, by simp⟩
  | (i, x) :: r, k, xs, h => by
    simp only [elemsOf] at h
    split at h
    · rename_i hc
      obtain ⟨rfl, h1, h2, _⟩ := hc
      obtain ⟨ys, hys, rfl⟩ := Option.map_eq_some_iff.1 h
      obtain ⟨h3, h4, h5⟩ := elemsOf_ok hys
      refine ⟨by simp [numbered, h3], by simp [h4], fun y hy => ?_⟩
      rcases List.mem_cons.1 hy with rfl | hy
      · exact ⟨h1, h2⟩
      · exact h5 y hy
    · simp at h
theorem numbered_get {α : Type} (xs : List α) (k j : Nat) : (numbered k xs)[j]? = (xs[j]?).map fun x => (k + j, x) := by
  induction xs generalizing k j with
  | nil => simp [numbered]
  | cons x xs ih =>
    cases j with
    | zero => rfl
    | succ j => simp only [numbered, List.getElem?_cons_succ, ih]; congr 1; funext y; congr 1; omega
theorem numbered_length {α : Type} (xs : List α) (k : Nat) : (numbered k xs).length = xs.length := by
  induction xs generalizing k with
  | nil => rfl
  | cons x xs ih => simp [numbered, ih]
section
variable {P : Program} {st st' : St} {a : Act} {w : World} {G : Gh} {X F : Nat → Prop} {nid : Nat} {o : Oper}

theorem RO.cells {S : Cells} {x : AV} {v : Value} (h : RO w S x v) (hc : x.cells.all AV.isCell = true) : Rs (RO w S) x.cells v.cells ∧ ∀ u ∈ v.cells.toList, u.oneCell' = true := by
  have key : Rs (RO w S) x.cells v.cells := by
    cases x with
    | agg cs => cases h with | agg _ _ vs hl hr => exact ⟨hl, hr⟩
    | undef => simp [AV.cells, AV.isCell] at hc
    | tup cs => simp [AV.cells, AV.isCell] at hc
    | _ =>
      have h1 := h.one rfl
      have e : v.cells = #[v] := by cases v <;> first | rfl | simp [Value.oneCell'] at h1
      rw [e]
      refine ⟨rfl, fun j hj => ?_⟩
      obtain rfl : j = 0 := by simpa [AV.cells] using hj
      exact h
  refine ⟨key, fun u hu => ?_⟩
  obtain ⟨j, hj, rfl⟩ := List.getElem_of_mem hu
  have hj' : j < x.cells.length := by rw [← key.1]; simpa using hj
  have h4 := (key.2 j hj').one (List.all_eq_true.1 hc _ (List.getElem_mem _))
  have hg := getD_some (xs := v.cells) (i := j) (by simpa using hj)
  rw [Array.getElem_toList]
  rw [Array.getElem?_eq_getElem (by simpa using hj)] at hg
  rw [Option.some.inj hg]
  exact h4

theorem run_buildSlice {t e len : Nat} {i : TypeInfo} {z : Value} {parts : Array (Nat × Value)} {R : Array Value → Prop} (ht : P.underlying t = some (.slice e)) (hi : P.info? e = some i) (hz : i.zero = some z) (hl : len * i.size ≤ 16777216)
    (hf : ∀ vs : Array Value, vs.size = len * i.size → ∃ cells, Instr.fill (fun k => some (k * i.size, i.size)) vs parts.toList = some cells ∧ R cells) (w : World) :
    ∃ cells, R cells ∧ (Instr.buildSlice t len parts).run P w = .ok (.slice (some ⟨w.heap.size, 0, none⟩) len len) (w.alloc (.cells cells e)) := by
  have hl' : ¬ (len * i.size > 2 ^ 24) := by omega
  simp only [Instr.buildSlice, Sem.run_bind, run_und ht, Result.andThen_ok, sizeOf, run_info hi, Sem.run_pure, if_neg hl']
  by_cases h0 : len * i.size = 0
  · rw [if_pos h0]
    simp only [Sem.run_bind, Sem.run_pure, Result.andThen_ok]
    obtain ⟨cells, h1, h2⟩ := hf _ (show ((Array.range (len * i.size)).map (fun x => (#[] : Array Value)[x % (#[] : Array Value).size]!)).size = len * i.size by simp)
    refine ⟨cells, h2, ?_⟩
    rw [h1]
    simp only [Sem.run_bind, run_newRow, Result.andThen_ok, Sem.run_pure]
  · rw [if_neg h0]
    simp only [Sem.run_bind, zeroValue, run_info hi, hz, Sem.run_pure, Result.andThen_ok]
    obtain ⟨cells, h1, h2⟩ := hf _ (show ((Array.range (len * i.size)).map (fun x => z.cells[x % z.cells.size]!)).size = len * i.size by simp)
    refine ⟨cells, h2, ?_⟩
    rw [h1]
    simp only [Sem.run_bind, run_newRow, Result.andThen_ok, Sem.run_pure]

theorem evBuildSlice_ok {t len : Nat} {ps : Array (Nat × Operand)} (h : Rel st a w G X F) (hX : ∀ b, w.heap.size ≤ b → X b) (hF : F nid) (hop : o.op = .buildSlice t len ps)
    (he : evBuildSlice P t len (ps.toList.map fun p => (p.1, st.val p.2)) nid o.dst st = some st') : Done false P o a w G X (fun i => F i ∧ i ≠ nid) st' := by
  unfold evBuildSlice at he
  split at he
  · rename_i hst
    obtain ⟨ti, hti, he⟩ := Option.bind_eq_some_iff.1 he
    obtain ⟨te, hte, he⟩ := Option.bind_eq_some_iff.1 he
    obtain ⟨xs, hxs, he⟩ := Option.bind_eq_some_iff.1 he
    split at he
    · rename_i hc
      obtain ⟨hlen, hcap, hpos, hz⟩ := hc
      obtain ⟨z, hz, hzs⟩ := zeroOK_some hz
      have hu := tagOf_slice (of_decide_eq_true hst) hti
      obtain ⟨hnum, hxl, hxc⟩ := elemsOf_ok hxs
      obtain ⟨ie, de, hie, hde, rfl⟩ := tiOf_some hte
      simp only at hz hpos hcap hxc he
      have hids : ∀ id ∈ (ps.toList.map fun p => (p.1, st.val p.2)).flatMap (fun p => p.2.rows), ∃ fz e sz xs, RowOK w G id fz e sz xs := by
        intro id hid
        obtain ⟨p, hp, hm⟩ := List.mem_flatMap.1 hid
        obtain ⟨q, hq, rfl⟩ := List.mem_map.1 hp
        exact (h.sees.val q.2).rows_al id hm
      generalize hidl : (ps.toList.map fun p => (p.1, st.val p.2)).flatMap (fun p => p.2.rows) = ids at hids he
      obtain ⟨hr0, hs0⟩ := h.freeze hids
      -- what the literal holds
      have hlen' : xs.length = len := by rw [hxl, ← hlen]
      have hro : ∀ (k i : Nat) (x : AV) (i' : Nat) (v : Value), (numbered 0 xs)[k]? = some (i, x) → ((ps.map fun p => (p.1, a.eval p.2)).toList)[k]? = some (i', v) → i = i' ∧ Rs (RO w (G.freeze w ids).S) x.cells v.cells := by
        intro k i x i' v h1 h2
        rw [← hnum] at h1
        simp only [List.getElem?_map, Option.map_eq_some_iff, Prod.mk.injEq, Array.getElem?_toList] at h1
        obtain ⟨p0, ⟨p, hp, rfl⟩, rfl, rfl⟩ := h1
        simp only [Array.toList_map, List.getElem?_map, Option.map_eq_some_iff, Prod.mk.injEq, Array.getElem?_toList] at h2
        obtain ⟨q, hq, rfl, rfl⟩ := h2
        rw [hp] at hq
        obtain rfl := Option.some.inj hq
        have hsl := (h.sees.val p.2).shutV (ids := ids) (fun id hid => by rw [← hidl]; exact List.mem_flatMap.2 ⟨(p.1, st.val p.2), List.mem_map.2 ⟨p, (Array.mem_toList_iff.2 (Array.mem_of_getElem? hp)), rfl⟩, hid⟩)
        have hmem : (st.val p.2).shutV ∈ xs := by
          have : (numbered 0 xs)[k]? = some (p.1, (st.val p.2).shutV) := by rw [← hnum]; simp [hp]
          rw [numbered_get] at this
          obtain ⟨y, hy, e⟩ := Option.map_eq_some_iff.1 this
          simp only [Prod.mk.injEq] at e
          rw [← e.2]
          exact List.mem_of_getElem? hy
        exact ⟨rfl, (hsl.cells (hxc _ hmem).2).1⟩
      have hsz : ∀ x ∈ xs, x.cells.length = ie.size := fun x hx => (hxc x hx).1
      have hseq := fillCells_seq (size := ie.size) (by omega) xs 0 [] (by simp) hsz
      simp only [List.nil_append] at hseq
      have hpl : (numbered 0 xs).length = ((ps.map fun p => (p.1, a.eval p.2)).toList).length := by rw [numbered_length, hxl]; simp
      have hfill : ∀ vs : Array Value, vs.size = len * ie.size → ∃ vs', Instr.fill (fun k => some (k * ie.size, ie.size)) vs (ps.map fun p => (p.1, a.eval p.2)).toList = some vs' ∧ Rs (RO w (G.freeze w ids).S) (flat xs) vs' := by
        intro vs hvs
        exact fillR_ok (R := RO w (G.freeze w ids).S) (cs := List.replicate (xs.length * ie.size) .undef) ⟨by simp [hvs, hlen'], fun j hj => by simp only [List.getElem_replicate]; exact .undef _ _⟩ hpl hro hseq
      obtain ⟨cells, hR, hrun⟩ := run_buildSlice (t := t) hu hie hz hcap hfill w
      have hm : len ≤ maxLen := by
        have : len * 1 ≤ len * ie.size := Nat.mul_le_mul_left _ hpos
        simp only [maxLen]
        omega
      have hfl : (flat xs).length = len * ie.size := by rw [flat_length hsz, hlen']
      have hown : (w.alloc (.cells cells ti.elem)).ownsRow 0 ti.elem ie.size (.slice (some ⟨w.heap.size, 0, none⟩) len len) len cells.toList := World.ownsRow_lit w _ len (Nat.zero_le _) hm (by rw [hR.1, hfl])
      obtain ⟨hr1, hs1, hx1⟩ := hr0.newRow (w' := w.alloc (.cells cells ti.elem)) (nid := nid) (dead := []) (v := .slice (some ⟨w.heap.size, 0, none⟩) len len) (L := 0) (fz := false) (e := ti.elem) (sz := ie.size) (xs := xs) hX hF (by simp) rfl rfl rfl (by simp only [World.alloc, Array.size_push]; omega)
        (fun k hk _ => heap_alloc_eq hk) (fun fl b o hs => cell_alloc (hr0.inv.lt fl b o hs)) (by simp) (fun g hg => by
          obtain rfl : w.heap.size = g := by simpa [Value.ownBlock] using hg
          exact .inl ⟨Nat.le_refl _, by simp only [World.alloc, Array.size_push]; omega⟩) (by simp) hsz (fun y hy => by
          simp only [flat, List.mem_flatMap] at hy
          obtain ⟨x', hx', hy⟩ := hy
          exact List.all_eq_true.1 (hxc x' hx').2 y hy) (inner := cells.toList) (by rw [hlen']; exact hown) (fun j hj => by
          have := hR.2 j hj
          rw [Array.getD_eq_getD_getElem?] at this
          rw [List.getD_eq_getElem?_getD, Array.getElem?_toList]
          exact this)
      have he2 : ((st.freeze ids).scrub []).put o.dst (.own nid false ti.elem ie.size xs) = some st' := he
      refine done_value (hs0.trans hs1) hr1 hx1 ?_ he2
      have hmap : (ps.map fun x => (x.1, a.eval x.2)) = (ps.map fun p => (p.1, a.eval p.2)) := rfl
      simp only [execOp, hop, Sem.run_bind]
      rw [hrun]
      rfl
    · simp at he
  · simp at he
end
end Go.Proofs.Ytogjbacgkcodmaa.Flat
/-
An element of a row of ours is written.
-/
set_option linter.unusedVariables false
set_option linter.unusedSimpArgs false
namespace Go.Proofs.Ytogjbacgkcodmaa.Flat
section
variable {P : Program} {st st' : St} {a : Act} {w : World} {G : Gh} {X F : Nat → Prop} {nid : Nat} {o : Oper}

theorem RowOK.same {id : Nat} {fz fz' : Bool} {e e' sz sz' : Nat} {xs ys : List AV} (h : RowOK w G id fz e sz xs) (h' : RowOK w G id fz' e' sz' ys) (hne : xs ≠ []) : e = e' ∧ sz = sz' ∧ xs.length = ys.length := by
  obtain ⟨_, _, _, _, inner, ho, _⟩ := h
  obtain ⟨_, _, _, _, inner', ho', _⟩ := h'
  have hpos : 0 < xs.length := by cases xs <;> simp_all
  rcases ho.2 with ⟨h5, h6⟩ | ⟨g, cap, cur, h5, h0, h7, h6, hm, hs, _⟩
  · omega
  · rcases ho'.2 with ⟨h5', h6'⟩ | ⟨g', cap', cur', h5', h0', h7', h6', hm', hs', _⟩
    · rw [h5] at h5'; simp at h5'
    · rw [h5] at h5'
      simp only [Value.slice.injEq, Option.some.injEq, Addr.mk.injEq, and_true] at h5'
      obtain ⟨rfl, h8, rfl⟩ := h5'
      rw [h7] at h7'
      simp only [Option.some.injEq, Obj.cells.injEq, and_true] at h7'
      obtain ⟨rfl, rfl⟩ := h7'
      rw [hs] at hs'
      exact ⟨rfl, Nat.eq_of_mul_eq_mul_left (by omega) hs', h8⟩

theorem flat_set {xs : List AV} {sz i : Nat} {x y : AV} (hsz : ∀ x ∈ xs, x.cells.length = sz) (hx : xs[i]? = some x) (hy : y.cells.length = sz) :
    flat (xs.set i y) = (flat xs).take (i * sz) ++ y.cells ++ (flat xs).drop (i * sz + sz) := by
  induction xs generalizing i with
  | nil => simp at hx
  | cons z xs ih =>
    have hz := hsz z (by simp)
    cases i with
    | zero =>
      rw [List.set_cons_zero, flat_cons, flat_cons]
      simp only [Nat.zero_mul, List.take_zero, List.nil_append, Nat.zero_add]
      rw [← hz, List.drop_left]
    | succ i =>
      have e : (i + 1) * sz = sz + i * sz := by rw [Nat.add_mul]; omega
      have hx' : xs[i]? = some x := by simpa using hx
      rw [List.set_cons_succ, flat_cons, flat_cons, ih (fun x hx => hsz x (by simp [hx])) hx', e, List.take_append, List.drop_append, hz, Nat.add_sub_cancel_left]
      have e1 : z.cells.take (sz + i * sz) = z.cells := List.take_of_length_le (by omega)
      have e2 : z.cells.drop (sz + i * sz + sz) = [] := List.drop_eq_nil_of_le (by omega)
      have e3 : sz + i * sz + sz - sz = i * sz + sz := by omega
      rw [e1, e2, e3]
      simp [List.append_assoc]

theorem take_over {α : Type} (l V : List α) (K s N : Nat) (hV : V.length = s) (h : K + s ≤ N) (h2 : N ≤ l.length) :
    (l.take K ++ V ++ l.drop (K + s)).take N = (l.take N).take K ++ V ++ (l.take N).drop (K + s) := by
  have e1 : (l.take K).length = K := by rw [List.length_take]; omega
  have e2 : (l.take N).take K = l.take K := by rw [List.take_take, Nat.min_eq_left (by omega)]
  rw [e2, List.take_append, List.length_append, e1, hV, List.take_of_length_le (by rw [List.length_append, e1, hV]; omega), List.drop_take]

/-- All handles of row id hold the new elements. -/
theorem Rel.setRow (h : Rel st a w G X F) {id g : Nat} {fz : Bool} {e sz n cap : Nat} {xs xs' : List AV} {cur cur' : Array Value} {inner' : List Value} (hk : RowOK w G id fz e sz xs) (hne : xs ≠ []) (hlim : G.lim id = 0)
    (hρ : G.ρ id = .slice (some ⟨g, 0, none⟩) n cap) (hh : w.heap[g]? = some (.cells cur e (0, 0))) (hsize : cur'.size = cur.size) (hlen : xs'.length = xs.length) (hsz : ∀ x ∈ xs', x.cells.length = sz) (hc : ∀ y ∈ flat xs', y.isCell = true)
    (hin : cur'.toList.take (xs.length * sz) = inner') (hr : ∀ j (hj : j < (flat xs').length), RO w G.S (flat xs')[j] (inner'.getD j undef)) :
    Rel (st.setRow id xs') a (w.setRow g cur') G X F ∧ Step false w (w.setRow g cur') G G X := by
  have hi := h.inv
  have hal := hk.1
  have hgb : (G.ρ id).ownBlock = some g := by rw [hρ]; rfl
  have hset : (w.setRow g cur').heap[g]? = some (.cells cur' e (0, 0)) := setRow_heap w g cur cur' e _ hh
  have hoth : ∀ k, k ≠ g → (w.setRow g cur').heap[k]? = w.heap[k]? := fun k hk => setRow_other w g k _ (fun e => hk e)
  have hsz' : (w.setRow g cur').heap.size = w.heap.size := by simp
  have hnoS : ∀ fl o, ¬ G.S fl g o := fun fl o hs => by have := hi.sRow fl g o id hs hal hgb; omega
  have hcell : ∀ fl c o, G.S fl c o → (w.setRow g cur').cell? ⟨c, o, none⟩ = w.cell? ⟨c, o, none⟩ := by
    intro fl c o hs
    exact World.cell?_of_block (hoth c (fun e2 => hnoS fl o (e2 ▸ hs)))
  have hro : ∀ a v, RO w G.S a v → RO (w.setRow g cur') G.S a v := fun a v hv => hv.mono (fun _ _ _ hs => hs) hcell
  have hrowne : ∀ i, i ≠ id → G.al i → ∀ b, (G.ρ i).ownBlock = some b → (w.setRow g cur').heap[b]? = w.heap[b]? := fun i hne2 hali b hb => hoth b (fun e2 => hi.rows i id b hali hal hne2 hb (by rw [e2]; exact hgb))
  have hkeep : ∀ i fz1 e1 sz1 ys, i ≠ id → RowOK w G i fz1 e1 sz1 ys → RowOK (w.setRow g cur') G i fz1 e1 sz1 ys := by
    intro i fz1 e1 sz1 ys hne2 hk1
    obtain ⟨h1, h2, h3, h4, inn, ho, hr1⟩ := hk1
    exact ⟨h1, h2, h3, h4, inn, ownsRow_move ho (hrowne i hne2 h1), fun j hj => hro _ _ (hr1 j hj)⟩
  have hnew : ∀ fz1 e1 sz1 ys, RowOK w G id fz1 e1 sz1 ys → RowOK (w.setRow g cur') G id fz1 e1 sz1 xs' := by
    intro fz1 e1 sz1 ys hk1
    obtain ⟨rfl, rfl, hl⟩ := hk.same hk1 hne
    obtain ⟨h1, h2, h3, h4, inn, ho, hr1⟩ := hk1
    refine ⟨h1, by rw [hlim]; exact Nat.zero_le _, hsz, hc, inner', ?_, fun j hj => hro _ _ (hr j hj)⟩
    rcases ho.2 with ⟨h5, h6⟩ | ⟨g', cap', cur0, h5, h0, h7, h6, hm, hs, _⟩
    · rw [hρ] at h5; simp at h5
    · have h5' := h5
      rw [hρ] at h5'
      simp only [Value.slice.injEq, Option.some.injEq, Addr.mk.injEq, and_true] at h5'
      obtain ⟨rfl, h8, rfl⟩ := h5'
      have h9 : cur0 = cur := by rw [hh] at h7; simpa using h7.symm
      subst h9
      have hcl : cur'.toList.length = cap * sz := by rw [Array.length_toList, hsize, hs]
      have hm2 : xs.length * sz ≤ cap * sz := Nat.mul_le_mul_right _ (by omega)
      refine ⟨?_, .inr ⟨g, cap, cur', by rw [h5]; congr 1; omega, Nat.zero_le _, hset, by omega, hm, by rw [hsize, hs], by rw [hlen]; exact hin⟩⟩
      rw [← hin, List.length_take, hcl, hlen]
      omega
  have hrv : ∀ {v : AV} {x : Value}, RV w G v x → RV (w.setRow g cur') G (v.mapO (fun i fz e sz xs => if i = id then .own i fz e sz xs' else .own i fz e sz xs) .ptr (fun i fz e sz xs k off => if i = id then .undef else .eptr i fz e sz xs k off) (fun _ => .nils)) x := by
    intro v x hv
    refine RV.map hro ?_ (fun _ _ _ hb => .ptr _ _ _ hb) ?_ .nils hv
    · intro i fz1 e1 sz1 ys hk1
      by_cases hid : i = id
      · subst hid; rw [if_pos rfl]; exact .own _ _ _ _ _ (hnew _ _ _ _ hk1)
      · rw [if_neg hid]; exact .own _ _ _ _ _ (hkeep _ _ _ _ _ hid hk1)
    · intro i fz1 e1 sz1 ys k off ad n c hk1 hρ1
      by_cases hid : i = id
      · rw [if_pos hid]; exact rvUndef _
      · rw [if_neg hid]; exact .eptr _ _ _ _ _ _ _ _ n c (hkeep _ _ _ _ _ hid hk1) hρ1
  refine ⟨⟨h.size, h.defers, fun i => ?_, fun i cs hcs => ?_, ?_, h.free⟩, ?_⟩
  · rw [St.setRow, St.get_mapO]; exact hrv (h.slot i)
  · rw [St.setRow, St.box_mapO] at hcs
    obtain ⟨cs0, hc0, rfl⟩ := Option.map_eq_some_iff.1 hcs
    obtain ⟨b, vs, T, h1, h2, h3, h4, h5, h6⟩ := h.box i cs0 hc0
    refine ⟨b, vs, T, h1, (hoth b (fun e2 => hi.rowBox id i b hal (by rw [e2]; exact hgb) h1)).trans h2, by simpa using h3, fun y hy => ?_, h5, fun j hj => ?_⟩
    · obtain ⟨y0, hy0, rfl⟩ := List.mem_map.1 hy
      have hh := h4 y0 hy0
      cases y0 with
      | undef => exact .inr rfl
      | own i2 _ _ _ _ => simp only [AV.mapO]; split <;> exact .inl rfl
      | eptr i2 _ _ _ _ _ _ => simp only [AV.mapO]; split <;> first | exact .inr rfl | exact .inl rfl
      | agg _ => rcases hh with hh | hh <;> simp [AV.isCell] at hh
      | tup _ => rcases hh with hh | hh <;> simp [AV.isCell] at hh
      | _ => exact .inl rfl
    · rw [List.getElem_map]; exact hrv (h6 j (by simpa using hj))
  · exact {
      nb := by rw [hsz']; exact hi.nb
      row := fun i b hali hb => by rw [hsz']; exact hi.row i b hali hb
      box := fun i c hc => by rw [hsz']; exact hi.box i c hc
      rows := hi.rows
      boxes := hi.boxes
      rowBox := hi.rowBox
      lt := fun fl c o hs => by rw [hsz']; exact hi.lt fl c o hs
      old := hi.old
      new := fun c o hs => by
        obtain ⟨h1, cur0, e0, h2⟩ := hi.new c o hs
        exact ⟨h1, cur0, e0, (hoth c (fun e2 => hnoS _ o (e2 ▸ hs))).trans h2⟩
      sBox := hi.sBox
      sRow := hi.sRow }
  · exact ⟨rfl, rfl, rfl, by rw [hsz']; exact Nat.le_refl _, fun c _ hx => hoth c (fun e2 => hx (by rw [e2]; exact (hi.row id g hal hgb).1)), rfl, fun _ _ _ _ hs => hs, fun fl c o _ hs => hcell fl c o hs, fun _ _ _ hs => .inl hs⟩

theorem evStoreElem_ok {t id e0 sz i off : Nat} {p x : Operand} {ti : TI} {xs : List AV} {y : AV} (h : Rel st a w G X F) (hop : o.op = .store t p x) (hti : tiOf P t = some ti) (hp : st.val p = .eptr id false e0 sz xs i off) (hy : xs[i]? = some y)
    (hl : (st.val x).cells.length = ti.size) (hfit : off + ti.size ≤ y.cells.length) (hc : (st.val x).shutV.cells.all AV.isCell = true) (hsl : (st.val x).shutV.cells.length = ti.size) (hnid : id ∉ (st.val x).rows)
    (he : ((st.freeze (st.val x).rows).setRow id (xs.set i (rebuild y (y.cells.take off ++ (st.val x).shutV.cells ++ y.cells.drop (off + ti.size))))).put o.dst .undef = some st') :
    Done false P o a w G X F st' := by
  have hpv := h.sees.val p
  rw [hp] at hpv
  obtain ⟨ad, n, c, hbv, hk, hρ⟩ : ∃ ad n c, a.eval p = .pointer (some (ad.add (i * sz + off))) ∧ RowOK w G id false e0 sz xs ∧ G.ρ id = .slice (some ad) n c := by
    generalize a.eval p = v at hpv
    cases hpv with
    | ro hr => cases hr
    | eptr _ _ _ _ _ _ _ ad n c hk hρ => exact ⟨ad, n, c, rfl, hk, hρ⟩
  have hids : ∀ id ∈ (st.val x).rows, ∃ fz e sz xs, RowOK w G id fz e sz xs := (h.sees.val x).rows_al
  obtain ⟨hr0, hs0⟩ := h.freeze hids
  have hne : xs ≠ [] := by intro e; subst e; simp at hy
  have hlim : (G.freeze w (st.val x).rows).lim id = 0 := by
    have : (G.freeze w (st.val x).rows).lim id = G.lim id := by simp [Gh.freeze, hnid]
    rw [this]
    have := hk.2.1
    simpa using this
  -- row id in the ghost with more that is read
  have hk1 : RowOK w (G.freeze w (st.val x).rows) id false e0 sz xs := by
    obtain ⟨h1, h2, h3, h4, inner, ho, hr⟩ := hk
    exact ⟨h1, by rw [hlim]; exact Nat.zero_le _, h3, h4, inner, ho, fun j hj => (hr j hj).mono (fun _ _ _ hs => Or.inl hs) (fun _ _ _ _ => rfl)⟩
  have hk1' := hk1
  obtain ⟨h1, h2, h3, h4, inner, ho, hr⟩ := hk1
  have hil : i < xs.length := (List.getElem?_eq_some_iff.1 hy).1
  have hym : y ∈ xs := List.mem_of_getElem? hy
  have hyl := h3 y hym
  have hρ1 : (G.freeze w (st.val x).rows).ρ id = .slice (some ad) n c := hρ
  rw [hρ1] at ho
  rcases ho.2 with ⟨h5, h6⟩ | ⟨g, cap, cur, h5, h0, h7, h6, hm, hs, htake⟩
  · simp at h5
  · simp only [Value.slice.injEq, Option.some.injEq] at h5
    obtain ⟨rfl, rfl, rfl⟩ := h5
    have hsro := (h.sees.val x).shutV (ids := (st.val x).rows) (fun _ hid => hid)
    obtain ⟨hsR, hsone⟩ := hsro.cells hc
    have hvl : (a.eval x).cells.size = ti.size := by rw [hsR.1, hsl]
    generalize hcd : y.cells.take off ++ (st.val x).shutV.cells ++ y.cells.drop (off + ti.size) = cnew at he
    have hcl : cnew.length = sz := by rw [← hcd]; simp [hsl, hyl]; omega
    generalize hyd : rebuild y cnew = y' at he
    have hcnewc : ∀ z ∈ cnew, z.isCell = true := by
      intro z hz
      rw [← hcd] at hz
      have hyc : ∀ q ∈ y.cells, q.isCell = true := fun q hq => h4 q (List.mem_flatMap.2 ⟨y, hym, hq⟩)
      simp only [List.mem_append] at hz
      rcases hz with (hz | hz) | hz
      · exact hyc z (List.mem_of_mem_take hz)
      · exact List.all_eq_true.1 hc z hz
      · exact hyc z (List.mem_of_mem_drop hz)
    have hy'c : y'.cells = cnew := by
      rw [← hyd]
      unfold rebuild
      cases hy0 : y with
      | agg cs => rfl
      | _ =>
        rw [hy0] at hyl
        simp only [AV.cells, List.length_cons, List.length_nil] at hyl
        obtain ⟨q, rfl⟩ : ∃ q, cnew = [q] := by
          match cnew, hcl with
          | [q], _ => exact ⟨q, rfl⟩
          | [], hcl => simp at hcl; omega
          | _ :: _ :: _, hcl => simp at hcl; omega
        have := hcnewc q (by simp)
        simp only [List.headD_cons]
        cases q <;> first | rfl | simp [AV.isCell] at this
    have hmul : (i + 1) * sz ≤ xs.length * sz := Nat.mul_le_mul_right _ hil
    rw [Nat.add_mul, Nat.one_mul] at hmul
    have hcapmul : xs.length * sz ≤ c * sz := Nat.mul_le_mul_right _ h6
    have hcurlen : cur.toList.length = c * sz := by simpa using hs
    have hfx : (flat xs).length = xs.length * sz := flat_length h3
    have hst := run_storeCells_at P g (i * sz + off) e0 (a.eval x).cells.toList 0 cur w h7 (by simp only [Array.length_toList, hvl, hs]; omega) hsone
    simp only [Nat.add_zero, Array.length_toList, hvl] at hst
    have hsz' : ∀ z ∈ xs.set i y', z.cells.length = sz := by
      intro z hz
      rcases List.mem_or_eq_of_mem_set hz with hz | rfl
      · exact h3 z hz
      · rw [hy'c]; exact hcl
    have hfs := flat_set h3 hy (show y'.cells.length = sz by rw [hy'c]; exact hcl)
    obtain ⟨hr1, hs1⟩ := hr0.setRow (xs' := xs.set i y') (cur' := (List.take (i * sz + off) cur.toList ++ (a.eval x).cells.toList ++ List.drop (i * sz + off + ti.size) cur.toList).toArray)
      (inner' := inner.take (i * sz + off) ++ (a.eval x).cells.toList ++ inner.drop (i * sz + off + ti.size)) hk1' hne hlim hρ1 h7
      (by simp [hvl]; rw [hs]; omega) (by simp) hsz' (fun z hz => by
        rw [hfs, hy'c] at hz
        simp only [List.mem_append] at hz
        rcases hz with (hz | hz) | hz
        · exact h4 z (List.mem_of_mem_take hz)
        · exact hcnewc z hz
        · exact h4 z (List.mem_of_mem_drop hz)) (by
        rw [← htake]
        exact take_over cur.toList _ _ _ _ (by simp [hvl]) (by omega) (by omega)) (fun j hj => by
        have hil' : inner.length = (flat xs).length := by rw [hfx]; exact ho.1
        have hvl' : (a.eval x).cells.toList.length = ti.size := by simp [hvl]
        have hj0 : j < xs.length * sz := by have := flat_length hsz'; rw [this] at hj; simpa using hj
        -- the cell's place in the flat list
        have hfl2 : flat (xs.set i y') = (flat xs).take (i * sz + off) ++ (st.val x).shutV.cells ++ (flat xs).drop (i * sz + off + ti.size) := by
          rw [hfs, hy'c, ← hcd]
          have ey : y.cells = ((flat xs).drop (i * sz)).take sz := by
            apply List.ext_getElem?
            intro q
            by_cases hq : q < sz
            · rw [List.getElem?_take_of_lt hq, List.getElem?_drop, ← flat_at h3 i q y hy hq]
            · rw [List.getElem?_eq_none (by omega), List.getElem?_eq_none (by simp; omega)]
          have e1 : y.cells.take off = ((flat xs).drop (i * sz)).take off := by rw [ey, List.take_take]; congr 1; omega
          have e2 : y.cells.drop (off + ti.size) = ((flat xs).drop (i * sz + off + ti.size)).take (sz - (off + ti.size)) := by rw [ey, List.drop_take, List.drop_drop]; congr 2; omega
          have e3 : (flat xs).drop (i * sz + off + ti.size) = ((flat xs).drop (i * sz + off + ti.size)).take (sz - (off + ti.size)) ++ (flat xs).drop (i * sz + sz) := by
            have e := List.take_append_drop (sz - (off + ti.size)) ((flat xs).drop (i * sz + off + ti.size))
            have e5 : i * sz + off + ti.size + (sz - (off + ti.size)) = i * sz + sz := by omega
            rw [List.drop_drop, e5] at e
            exact e.symm
          have e4 : (flat xs).take (i * sz + off) = (flat xs).take (i * sz) ++ ((flat xs).drop (i * sz)).take off := by rw [List.take_add]
          rw [e1, e2, e4]
          conv => rhs; rw [e3]
          simp only [List.append_assoc]
        simp only [hfl2]
        have hg : ∀ q (l1 l2 l3 : List Value), l1.length = i * sz + off → l2.length = ti.size → (l1 ++ l2 ++ l3).getD q undef = if q < i * sz + off then l1.getD q undef else if q < i * sz + off + ti.size then l2.getD (q - (i * sz + off)) undef else l3.getD (q - (i * sz + off + ti.size)) undef := by
          intro q l1 l2 l3 e1 e2
          simp only [List.getD_eq_getElem?_getD]
          split
          · rw [List.getElem?_append_left (by simp; omega), List.getElem?_append_left (by omega)]
          · split
            · rw [List.getElem?_append_left (by simp; omega), List.getElem?_append_right (by omega), e1]
            · rw [List.getElem?_append_right (by simp; omega)]; simp only [List.length_append, e1, e2]
        rw [hg j _ _ _ (by simp; omega) hvl']
        by_cases c1 : j < i * sz + off
        · rw [if_pos c1, List.getElem_append_left (by simp; omega), List.getElem_append_left (by simp; omega), List.getElem_take]
          have := hr j (by omega)
          rw [List.getD_eq_getElem?_getD, List.getElem?_take_of_lt c1, ← List.getD_eq_getElem?_getD]
          exact this
        · rw [if_neg c1]
          by_cases c2 : j < i * sz + off + ti.size
          · rw [if_pos c2, List.getElem_append_left (by simp; omega), List.getElem_append_right (by simp; omega)]
            have := hsR.2 (j - (i * sz + off)) (by omega)
            rw [Array.getD_eq_getD_getElem?] at this
            rw [List.getD_eq_getElem?_getD, Array.getElem?_toList]
            have e : j - ((flat xs).take (i * sz + off)).length = j - (i * sz + off) := by simp; omega
            simp only [e]
            exact this
          · rw [if_neg c2, List.getElem_append_right (by simp; omega)]
            have e : j - ((flat xs).take (i * sz + off) ++ (st.val x).shutV.cells).length = j - (i * sz + off + ti.size) := by simp [hsl]; omega
            simp only [e, List.getElem_drop]
            rw [List.getD_eq_getElem?_getD, List.getElem?_drop, ← List.getD_eq_getElem?_getD]
            have e2 : i * sz + off + ti.size + (j - (i * sz + off + ti.size)) = j := by omega
            simp only [e2]
            exact hr j (by omega))
    refine ⟨_, _, hs0.trans hs1, .inr ⟨?_, (hr1.put (rvUndef _) he).1⟩⟩
    have hszr := run_size hti w
    simp only [execOp, hop, hbv]
    rw [add_eq rfl]
    simp only [Nat.zero_add]
    simp [Instr.storeAt, Instr.sureAddr, storeVar, hszr, hvl, hst]
end
end Go.Proofs.Ytogjbacgkcodmaa.Flat
