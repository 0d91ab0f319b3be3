/-
The state: what stands in the slots and in the variables; and what changes of the world leave as it is.
-/
import Derived.Test.YtggkeechdakccaaFlatM1
import Derived.Maps.AppendAt
set_option linter.unusedVariables false
set_option linter.unusedSimpArgs false
namespace Go.Proofs.Ytggkeechdakccaa.Flat
theorem look_cons {α : Type} (i j : Nat) (v : α) (r : List (Nat × α)) : look i ((j, v) :: r) = if i = j then some v else look i r := rfl
theorem look_map {α β : Type} (F : α → β) (i : Nat) (l : List (Nat × α)) : look i (l.map fun p => (p.1, F p.2)) = (look i l).map F := by
  induction l with
  | nil => rfl
  | cons p r ih =>
    obtain ⟨j, v⟩ := p
    simp only [List.map_cons, look_cons]
    split
    · rfl
    · exact ih
theorem St.get_mapO (st : St) (f : Nat → Bool → Nat → Nat → List AV → AV) (g : Nat → Nat → AV) (h : Bool → Nat → Bool → Nat → Nat → List AV → Nat → Nat → AV) (i : Nat) :
    (st.mapO f g h).get i = (st.get i).mapO f g h (fun _ => .nils) := by
  unfold St.get St.mapO
  rw [look_map (fun v => AV.mapO f g h (fun _ => .nils) v)]
  cases look i st.sl <;> rfl
theorem St.box_mapO (st : St) (f : Nat → Bool → Nat → Nat → List AV → AV) (g : Nat → Nat → AV) (h : Bool → Nat → Bool → Nat → Nat → List AV → Nat → Nat → AV) (i : Nat) :
    (st.mapO f g h).box i = (st.box i).map fun cs => cs.map (AV.mapO f g h (fun _ => .nils)) := by
  unfold St.box St.mapO
  rw [look_map (fun cs => AV.mapOs f g h (fun _ => .nils) cs)]
  cases look i st.bx with
  | none => rfl
  | some cs => simp only [Option.map_some, AV.mapOs_eq]
structure Keep (w w' : World) (G G' : Gh) (N : Nat → Prop) : Prop where
  S : ∀ fl b o, G.S fl b o → G'.S fl b o
  cell : ∀ fl b o, G.S fl b o → w'.cell? ⟨b, o, none⟩ = w.cell? ⟨b, o, none⟩
  row : ∀ id, ¬ N id → G.al id → G'.al id ∧ G'.ρ id = G.ρ id ∧ G'.lim id = G.lim id ∧ G'.esz id = G.esz id ∧ ∀ g, G.own id g → G'.own id g ∧ w'.heap[g]? = w.heap[g]?
  box : ∀ id b, G.μ id = some b → G'.μ id = some b
section
variable {w w' : World} {G G' : Gh} {N : Nat → Prop}
theorem Keep.ro (hk : Keep w w' G G' N) {a : AV} {v : Value} (h : RO w G.S a v) : RO w' G'.S a v := h.mono hk.S hk.cell
theorem Keep.rowOK (hk : Keep w w' G G' N) {id : Nat} {fz : Bool} {e sz : Nat} {xs : List AV} (hn : ¬ N id) (h : RowOK w G id fz e sz xs) : RowOK w' G' id fz e sz xs := by
  obtain ⟨hal, hes, hlim, ht⟩ := h
  obtain ⟨h1, h2, h3, h4, h5⟩ := hk.row id hn hal
  refine ⟨h1, h4.trans hes, by rw [h3, h2]; exact hlim, ?_⟩
  rw [h2]
  exact ht.mono hk.S hk.cell (fun b hb => (h5 b hb).2) (fun b hb => (h5 b hb).1)
theorem Keep.place (hk : Keep w w' G G' N) {id : Nat} {fz : Bool} {e sz : Nat} {xs : List AV} (hn : ¬ N id) (h : RowOK w G id fz e sz xs) {ad : Addr} {n c o : Nat} {v : Value} (hρ : G.ρ id = .slice (some ad) n c) (hv : w.cell? (ad.add o) = some v) : w'.cell? (ad.add o) = some v := by
  obtain ⟨g, off, cur, Fs, rfl, rfl, hat⟩ := h.at hρ
  rw [add_eq rfl] at hv ⊢
  rw [← hv]
  exact World.cell?_of_block ((hk.row id hn h.1).2.2.2.2 g hat.own).2
theorem Keep.rv (hk : Keep w w' G G' (fun _ => False)) {a : AV} {v : Value} (h : RV w G a v) : RV w' G' a v := by
  induction h with
  | ro h => exact .ro (hk.ro h)
  | nils => exact .nils
  | own id fz e sz xs h =>
    have := (hk.row id (fun h => h) h.1).2.1
    rw [← this]
    exact .own _ _ _ _ _ (hk.rowOK (fun h => h) h)
  | ptr id off b h => exact .ptr _ _ _ (hk.box _ _ h)
  | eptr id fz e sz xs i off ad n c h hρ =>
    have := (hk.row id (fun h => h) h.1).2.1
    exact .eptr _ _ _ _ _ _ _ _ n c (hk.rowOK (fun h => h) h) (by rw [this]; exact hρ)
  | sub id fz e sz xs i off ad n c v x h hρ hx ho hv =>
    have := (hk.row id (fun h => h) h.1).2.1
    exact .sub _ _ _ _ _ _ _ _ n c v x (hk.rowOK (fun h => h) h) (by rw [this]; exact hρ) hx ho (hk.place (fun h => h) h hρ hv)
  | agg cs vs hl hr ih => exact .agg _ _ hl ih
  | tup cs vs hl hr ih => exact .tup _ _ hl ih
  | clo f cs vs hl hr ih => exact .clo _ _ _ hl ih
theorem Keep.scrub {ids : List Nat} (hk : Keep w w' G G' (fun id => id ∈ ids)) {a : AV} {v : Value} (h : RV w G a v) :
    RV w' G' (a.mapO (fun id fz e sz xs => if id ∈ ids then .undef else .own id fz e sz xs) .ptr (fun d id fz e sz xs i off => if id ∈ ids then .undef else .eptr d id fz e sz xs i off) (fun _ => .nils)) v := by
  refine RV.map (fun a v h => hk.ro h) ?_ ?_ ?_ ?_ .nils h
  · intro id fz e sz xs h
    split
    · exact rvUndef _
    · rename_i hn
      have := (hk.row id hn h.1).2.1
      rw [← this]
      exact .own _ _ _ _ _ (hk.rowOK hn h)
  · intro id off b h
    exact .ptr _ _ _ (hk.box _ _ h)
  · intro id fz e sz xs i off ad n c h hρ
    split
    · exact rvUndef _
    · rename_i hn
      have := (hk.row id hn h.1).2.1
      exact .eptr _ _ _ _ _ _ _ _ n c (hk.rowOK hn h) (by rw [this]; exact hρ)
  · intro id fz e sz xs i off ad n c v x h hρ hx ho hv
    split
    · exact rvUndef _
    · rename_i hn
      have := (hk.row id hn h.1).2.1
      exact .sub _ _ _ _ _ _ _ _ n c v x (hk.rowOK hn h) (by rw [this]; exact hρ) hx ho (hk.place hn h hρ hv)
end
structure Rel [Kept] (st : St) (a : Act) (w : World) (G : Gh) (X F : Nat → Prop) : Prop where
  size : a.tmps.size = st.nt
  defers : a.defers = []
  slot : ∀ i, RV w G (st.get i) (a.tmps.getD i undef)
  box : ∀ id cs, st.box id = some cs → BoxOK w G id cs
  inv : Inv w G X
  free : ∀ id, F id → ¬ G.al id ∧ G.μ id = none
structure Step (k : Bool) (w w' : World) (G G' : Gh) (X : Nat → Prop) : Prop where
  os : w'.os = w.os
  tape : w'.tape = w.tape
  output : w'.output = w.output
  size : w.heap.size ≤ w'.heap.size
  block : ∀ b, b < w.heap.size → ¬ X b → w'.heap[b]? = w.heap[b]?
  nb : G'.nb = G.nb
  S : ∀ fl b o, k = false ∨ fl = false → G.S fl b o → G'.S fl b o
  cell : ∀ fl b o, k = false ∨ fl = false → G.S fl b o → w'.cell? ⟨b, o, none⟩ = w.cell? ⟨b, o, none⟩
  newS : ∀ fl b o, G'.S fl b o → G.S fl b o ∨ (fl = true ∧ (X b ∨ w.heap.size ≤ b))
  np : G'.np = G.np
  mu : ∀ i b, i < G.np → G.μ i = some b → G'.μ i = some b
theorem Step.refl (k : Bool) (w : World) (G : Gh) (X : Nat → Prop) : Step k w w G G X := ⟨rfl, rfl, rfl, Nat.le_refl _, fun _ _ _ => rfl, rfl, fun _ _ _ _ h => h, fun _ _ _ _ _ => rfl, fun _ _ _ h => .inl h, rfl, fun _ _ _ h => h⟩
theorem Step.trans {k : Bool} {w w' w'' : World} {G G' G'' : Gh} {X : Nat → Prop} (h : Step k w w' G G' X) (h' : Step k w' w'' G' G'' X) : Step k w w'' G G'' X where
  os := h'.os.trans h.os
  tape := h'.tape.trans h.tape
  output := h'.output.trans h.output
  size := Nat.le_trans h.size h'.size
  block := fun b hb hx => (h'.block b (Nat.lt_of_lt_of_le hb h.size) hx).trans (h.block b hb hx)
  nb := h'.nb.trans h.nb
  S := fun fl b o hk hs => h'.S fl b o hk (h.S fl b o hk hs)
  cell := fun fl b o hk hs => (h'.cell fl b o hk (h.S fl b o hk hs)).trans (h.cell fl b o hk hs)
  np := h'.np.trans h.np
  mu := fun i b hi hb => h'.mu i b (by rw [h.np]; exact hi) (h.mu i b hi hb)
  newS := fun fl b o hs => by
    rcases h'.newS fl b o hs with h1 | ⟨h1, h2⟩
    · exact h.newS fl b o h1
    · refine .inr ⟨h1, ?_⟩
      rcases h2 with h2 | h2
      · exact .inl h2
      · exact .inr (Nat.le_trans h.size h2)
theorem Step.weaken {k : Bool} {w w' : World} {G G' : Gh} {X : Nat → Prop} (h : Step false w w' G G' X) : Step k w w' G G' X where
  os := h.os
  tape := h.tape
  output := h.output
  size := h.size
  block := h.block
  nb := h.nb
  S := fun fl b o _ => h.S fl b o (.inl rfl)
  cell := fun fl b o _ => h.cell fl b o (.inl rfl)
  newS := h.newS
  np := h.np
  mu := h.mu
section
variable {st : St} {a : Act} {w w' : World} {G G' : Gh} {X F : Nat → Prop}
theorem getD_set {tmps : Array Value} {d i : Nat} {v : Value} (h : d < tmps.size) : (tmps.setIfInBounds d v).getD i undef = if i = d then v else tmps.getD i undef := by
  simp only [Array.getD_eq_getD_getElem?, Array.getElem?_setIfInBounds]
  by_cases h1 : d = i
  · subst h1
    simp [h]
  · rw [if_neg h1, if_neg (fun e => h1 e.symm)]
theorem Rel.put [Kept] (h : Rel st a w G X F) {dst : Option Nat} {x : AV} {v : Value} {st' : St} (hx : RV w G x v) (hp : st.put dst x = some st') : Rel st' (a.put dst v) w G X F ∧ st'.nx = st.nx ∧ st'.nt = st.nt ∧ st'.bx = st.bx := by
  unfold St.put at hp
  cases dst with
  | none =>
    obtain rfl := Option.some.inj hp
    exact ⟨h, rfl, rfl, rfl⟩
  | some d =>
    simp only at hp
    split at hp
    · rename_i hd
      obtain rfl := Option.some.inj hp
      refine ⟨⟨by simp [Act.put, h.size], h.defers, fun i => ?_, h.box, h.inv, h.free⟩, rfl, rfl, rfl⟩
      simp only [Act.put, St.get, look_cons]
      rw [getD_set (by rw [h.size]; exact hd)]
      by_cases hi : i = d
      · rw [if_pos hi, if_pos hi]; exact hx
      · rw [if_neg hi, if_neg hi]; exact h.slot i
    · simp at hp
theorem BoxOK.keep {id : Nat} {cs : List AV} (hk : Keep w w' G G' (fun _ => False)) (h : BoxOK w G id cs) (hb : ∀ b, G.μ id = some b → w'.heap[b]? = w.heap[b]?) : BoxOK w' G' id cs := by
  obtain ⟨b, vs, T, h1, h2, h3, h4, h5, h6⟩ := h
  exact ⟨b, vs, T, hk.box _ _ h1, (hb b h1).trans h2, h3, h4, h5, fun j hj => hk.rv (h6 j hj)⟩
theorem Rel.keep [Kept] (h : Rel st a w G X F) (hk : Keep w w' G G' (fun _ => False)) (hb : ∀ id b, G.μ id = some b → w'.heap[b]? = w.heap[b]?) (hi : Inv w' G' X) {F' : Nat → Prop} (hf : ∀ id, F' id → ¬ G'.al id ∧ G'.μ id = none) : Rel st a w' G' X F' :=
  ⟨h.size, h.defers, fun i => hk.rv (h.slot i), fun id cs hc => (h.box id cs hc).keep hk (hb id), hi, hf⟩
theorem Rel.sees [Kept] (h : Rel st a w G X F) : Sees st.box st.val a.eval w G where
  val := fun x => by
    cases x with
    | tmp t => exact h.slot t
    | const v => exact ofConst_ok v
    | global g => exact rvUndef _
    | func f => exact .clo _ _ _ rfl (fun j hj => by simp at hj)
  box := h.box
end
end Go.Proofs.Ytggkeechdakccaa.Flat
/-
Operations that make or write memory: one law each, of the machine alone.
-/
namespace Go.Proofs.Ytggkeechdakccaa.Flat
variable {P : Program}
theorem getD_lt {xs : Array Value} {j : Nat} (h : j < xs.size) : xs.getD j undef = xs[j] := by simp [Array.getD_eq_getD_getElem?, h]
theorem toArray_getD (l : List Value) (j : Nat) : l.toArray.getD j undef = l.getD j undef := by simp [Array.getD_eq_getD_getElem?, List.getD_eq_getElem?_getD]
theorem append_getD_left {l r : List Value} {j : Nat} (h : j < l.length) : (l ++ r).getD j undef = l.getD j undef := by
  rw [List.getD_eq_getElem?_getD, List.getElem?_append_left h, ← List.getD_eq_getElem?_getD]
theorem append_getD_right {l r : List Value} {j : Nat} (h : l.length ≤ j) : (l ++ r).getD j undef = r.getD (j - l.length) undef := by
  rw [List.getD_eq_getElem?_getD, List.getElem?_append_right h, ← List.getD_eq_getElem?_getD]
theorem run_append_at {w : World} {t ty e : TypeId} {i : TypeInfo} (ht : P.underlying t = some (.slice e)) (hi : P.info? e = some i) {g off n cap : Nat} {cur : Array Value} (hg : w.heap[g]? = some (.cells cur e (0, 0)))
    (a : Addr) (m c : Nat) (news : List Value) (hl : news.length = m * i.size) (hnews : ∀ j u, news[j]? = some u → w.cell? (a.add j) = some u) (h1 : ∀ u ∈ news, u.oneCell' = true)
    (hroom : n + m ≤ cap) (hfit : off + n * i.size + news.length ≤ cur.size) :
    (Builtin.append_ #[t, t] ty #[.slice (some ⟨g, off, none⟩) n cap, .slice (some a) m c]).run P w = .ok (.slice (some ⟨g, off, none⟩) (n + m) cap)
      (w.setRow g (cur.toList.take (off + n * i.size) ++ news ++ cur.toList.drop (off + n * i.size + news.length)).toArray) := by
  have hfc := run_firstCells_some (P := P) w i.size m a m c news hl hnews
  have hst := run_storeCells_at P g (off + n * i.size) e news 0 cur w hg (by simpa using hfit) h1
  simp only [Nat.add_zero] at hst
  simp [Builtin.append_, run_underlying ht, sizeOf, typeInfo, hi, Builtin.lenOf, hroom, hfc, Addr.add_lit, hst]
theorem append_any {w : World} {t ty e : TypeId} {i : TypeInfo} {z : Value} (ht : P.underlying t = some (.slice e)) (hi : P.info? e = some i) (hz : i.zero = some z)
    (hzs : z.cells.size = i.size) (hsz : 0 < i.size) {g off n cap : Nat} {cur : Array Value} (hg : w.heap[g]? = some (.cells cur e (0, 0))) (hnc : n ≤ cap) (hcm : cap ≤ maxLen) (hcs : off + cap * i.size ≤ cur.size)
    (A : Option Addr) (m c : Nat) (news : List Value) (hA : A = none → m = 0) (hA0 : A = none → c = 0) (hl : news.length = m * i.size) (hnews : ∀ a, A = some a → ∀ j u, news[j]? = some u → w.cell? (a.add j) = some u) (h1 : ∀ u ∈ news, u.oneCell' = true)
    (h63 : n + m ≤ maxLen) (hbytes : (n + m) * i.bytes ≤ 140737488355328) :
    ∃ w' g' off' cap' cur', (Builtin.append_ #[t, t] ty #[.slice (some ⟨g, off, none⟩) n cap, .slice A m c]).run P w = .ok (.slice (some ⟨g', off', none⟩) (n + m) cap') w' ∧
      w'.heap[g']? = some (.cells cur' e (0, 0)) ∧ n + m ≤ cap' ∧ cap' ≤ maxLen ∧ off' + cap' * i.size ≤ cur'.size ∧
      (∀ j, j < n * i.size → cur'.getD (off' + j) undef = cur.getD (off + j) undef) ∧ (∀ j, j < news.length → cur'.getD (off' + (n * i.size + j)) undef = news.getD j undef) ∧
      w'.os = w.os ∧ w'.tape = w.tape ∧ w'.output = w.output ∧ w.heap.size ≤ w'.heap.size ∧ g' < w'.heap.size ∧ (∀ k, k < w.heap.size → k ≠ g → w'.heap[k]? = w.heap[k]?) ∧
      ((∃ cur, w'.heap[g]? = some (.cells cur e (0, 0))) ∧ ∀ o, o < off + n * i.size → w'.cell? ⟨g, o, none⟩ = w.cell? ⟨g, o, none⟩) ∧
      ((g' = g ∧ off' = off) ∨ g' = w.heap.size) := by
  have hglt : g < w.heap.size := (Array.getElem?_eq_some_iff.1 hg).1
  have hncs : n * i.size ≤ cap * i.size := Nat.mul_le_mul_right _ hnc
  cases A with
  | none =>
    obtain rfl := hA rfl
    obtain rfl := hA0 rfl
    obtain rfl : news = [] := List.eq_nil_of_length_eq_zero (by simpa using hl)
    refine ⟨w, g, off, cap, cur, ?_, hg, by omega, hcm, hcs, fun _ _ => rfl, fun j hj => by simp at hj, rfl, rfl, rfl, Nat.le_refl _, hglt, fun _ _ _ => rfl, ⟨⟨cur, hg⟩, fun _ _ => rfl⟩, .inl ⟨rfl, rfl⟩⟩
    simp [Builtin.append_, run_underlying ht, sizeOf, typeInfo, hi, Builtin.lenOf, Builtin.firstCells, loadCells, loadCellsFrom, hnc, storeCells]
  | some a =>
    have hn := hnews a rfl
    by_cases hroom : n + m ≤ cap
    · have hcap2 : (n + m) * i.size ≤ cap * i.size := Nat.mul_le_mul_right _ hroom
      rw [Nat.add_mul] at hcap2
      have hfit : off + n * i.size + news.length ≤ cur.size := by omega
      have hr := run_append_at (P := P) (ty := ty) ht hi hg a m c news hl hn h1 hroom hfit
      have hset := setRow_heap w g cur (cur.toList.take (off + n * i.size) ++ news ++ cur.toList.drop (off + n * i.size + news.length)).toArray e _ hg
      have hk : (cur.toList.take (off + n * i.size)).length = off + n * i.size := by simp; omega
      have hin : ∀ o, o < off + n * i.size → (cur.toList.take (off + n * i.size) ++ news ++ cur.toList.drop (off + n * i.size + news.length)).toArray.getD o undef = cur.getD o undef := by
        intro o ho
        rw [toArray_getD, List.append_assoc, append_getD_left (by omega), List.getD_eq_getElem?_getD, List.getElem?_take_of_lt ho, Array.getElem?_toList, ← Array.getD_eq_getD_getElem?]
      refine ⟨_, g, off, cap, _, hr, hset, hroom, hcm, ?_, fun j hj => hin _ (by omega), fun j hj => ?_, rfl, rfl, rfl, by simp, by simpa using hglt, fun k _ hk => setRow_other w g k _ (fun e => hk e), ⟨⟨_, hset⟩, fun o ho => ?_⟩, .inl ⟨rfl, rfl⟩⟩
      · simp only [List.size_toArray, List.length_append, hk, List.length_drop, Array.length_toList]
        omega
      · rw [toArray_getD, List.append_assoc, append_getD_right (by omega), hk, append_getD_left (by omega)]
        congr 1
        omega
      · have h2 := hin o ho
        have h3 : o < cur.size := by omega
        simp only [World.cell?, hset, hg, Option.isSome_none, Bool.false_eq_true, if_false]
        have h4 : o < (cur.toList.take (off + n * i.size) ++ news ++ cur.toList.drop (off + n * i.size + news.length)).toArray.size := by simp only [List.size_toArray, List.length_append, hk]; omega
        rw [getD_lt h3, getD_lt h4] at h2
        rw [Array.getElem?_eq_getElem h3, Array.getElem?_eq_getElem h4, h2]
    · have holds : ∀ j u, ((cur.toList.drop off).take (n * i.size))[j]? = some u → w.cell? ((⟨g, off, none⟩ : Addr).add j) = some u := by
        intro j u hu
        have hj : j < n * i.size := by have := (List.getElem?_eq_some_iff.1 hu).1; simp at this; omega
        rw [List.getElem?_take_of_lt hj, List.getElem?_drop, Array.getElem?_toList] at hu
        rw [add_eq rfl]
        simp only [World.cell?, hg, Option.isSome_none, Bool.false_eq_true, if_false]
        exact hu
      have hol : ((cur.toList.drop off).take (n * i.size)).length = n * i.size := by simp; omega
      have hr := run_append_grow (P := P) w t ty e i z ht hi hz ⟨g, off, none⟩ n cap _ hol holds a m c news hl hn (by omega) (by simp only [maxLen] at h63; omega) (growslice_fits (by omega) hbytes)
      have ho := heap_alloc_old w.drew (.cells (((cur.toList.drop off).take (n * i.size)).toArray ++ news.toArray ++ Builtin.zeroCells z.cells (grownCap w (n + m) cap e - (n + m))) e) hglt
      refine ⟨_, w.heap.size, 0, grownCap w (n + m) cap e, _, hr, heap_alloc_new w.drew _, grownCap_ge w (n + m) cap e, grownCap_le_maxLen w (n + m) cap e h63, ?_, fun j hj => ?_, fun j hj => ?_, rfl, rfl, rfl, by simp, by simp, fun k hk _ => heap_alloc_old w.drew _ hk, ⟨⟨cur, ho.trans hg⟩, fun o _ => World.cell?_of_block ho⟩, .inr rfl⟩
      · have hge := grownCap_ge w (n + m) cap e
        simp only [Array.size_append, List.size_toArray, size_zeroCells, hzs, hol, hl, ← Nat.add_mul]
        rw [Nat.zero_add]
        exact Nat.mul_le_mul_right _ (by omega)
      · rw [Nat.zero_add, Array.append_assoc, Array.getD_eq_getD_getElem?, Array.getElem?_append_left (by simpa [hol] using hj), List.getElem?_toArray, List.getElem?_take_of_lt hj, List.getElem?_drop, Array.getElem?_toList, ← Array.getD_eq_getD_getElem?]
      · rw [Nat.zero_add, Array.append_assoc, Array.getD_eq_getD_getElem?, Array.getElem?_append_right (by simp [hol])]
        have e1 : n * i.size + j - ((cur.toList.drop off).take (n * i.size)).toArray.size = j := by rw [List.size_toArray, hol]; omega
        rw [e1, Array.getElem?_append_left (by simpa using hj), List.getElem?_toArray, ← List.getD_eq_getElem?_getD]
theorem append_none {w : World} {t ty e : TypeId} {i : TypeInfo} {z : Value} (ht : P.underlying t = some (.slice e)) (hi : P.info? e = some i) (hz : i.zero = some z)
    (hzs : z.cells.size = i.size)
    (A : Option Addr) (m c : Nat) (news : List Value) (hA : A = none → m = 0) (hA0 : A = none → c = 0) (hl : news.length = m * i.size) (hnews : ∀ a, A = some a → ∀ j u, news[j]? = some u → w.cell? (a.add j) = some u)
    (h63 : m ≤ maxLen) (hbytes : m * i.bytes ≤ 140737488355328) :
    (m = 0 → (Builtin.append_ #[t, t] ty #[.slice none 0 0, .slice A m c]).run P w = .ok (.slice none 0 0) w) ∧
    (m ≠ 0 → ∃ w' cap' cur', (Builtin.append_ #[t, t] ty #[.slice none 0 0, .slice A m c]).run P w = .ok (.slice (some ⟨w.heap.size, 0, none⟩) m cap') w' ∧
      w'.heap[w.heap.size]? = some (.cells cur' e (0, 0)) ∧ m ≤ cap' ∧ cap' ≤ maxLen ∧ cap' * i.size ≤ cur'.size ∧ (∀ j, j < news.length → cur'.getD j undef = news.getD j undef) ∧
      w'.os = w.os ∧ w'.tape = w.tape ∧ w'.output = w.output ∧ w.heap.size ≤ w'.heap.size ∧ w.heap.size < w'.heap.size ∧ (∀ k, k < w.heap.size → w'.heap[k]? = w.heap[k]?)) := by
  refine ⟨fun hm => ?_, fun hm => ?_⟩
  · subst hm
    cases A with
    | none =>
      obtain rfl := hA0 rfl
      simp [Builtin.append_, run_underlying ht, sizeOf, typeInfo, hi, Builtin.lenOf, Builtin.firstCells, loadCells, loadCellsFrom]
    | some a => simp [Builtin.append_, run_underlying ht, sizeOf, typeInfo, hi, Builtin.lenOf, Builtin.firstCells, loadCells, loadCellsFrom]
  · cases A with
    | none => exact absurd (hA rfl) hm
    | some a =>
      have hr := run_append_nil (P := P) w t ty e i z ht hi hz a m c news hl (hnews a rfl) (by omega) (by simp only [maxLen] at h63; omega) (by omega)
      have hge := grownCap_ge w m 0 e
      refine ⟨_, grownCap w m 0 e, _, hr, heap_alloc_new w.drew _, by omega, grownCap_le_maxLen w m 0 e (by omega), ?_, fun j hj => ?_, rfl, rfl, rfl, by simp, by simp, fun k hk => heap_alloc_old w.drew _ hk⟩
      · simp only [Array.size_append, List.size_toArray, size_zeroCells, hzs, hl, ← Nat.add_mul]
        exact Nat.mul_le_mul_right _ (by omega)
      · rw [Array.getD_eq_getD_getElem?, Array.getElem?_append_left (by simpa using hj), List.getElem?_toArray, ← List.getD_eq_getElem?_getD]
end Go.Proofs.Ytggkeechdakccaa.Flat
/-
The state behind an operation that makes a variable or a row.
-/
namespace Go.Proofs.Ytggkeechdakccaa.Flat
section
variable {st : St} {a : Act} {w w' : World} {G G' : Gh} {X F : Nat → Prop}
def Gh.addBox (G : Gh) (nid b : Nat) : Gh := { G with μ := fun i => if i = nid then some b else G.μ i }
def Gh.addRow (G : Gh) (nid : Nat) (v : Value) (L : Nat) (own : Nat → Prop) (sz : Nat) (dead : List Nat) : Gh :=
  { G with ρ := fun i => if i = nid then v else G.ρ i, al := fun i => i = nid ∨ (G.al i ∧ i ∉ dead), lim := fun i => if i = nid then L else G.lim i, own := fun i => if i = nid then own else G.own i, esz := fun i => if i = nid then sz else G.esz i }
theorem heap_alloc_eq {w : World} {o : Obj} {k : Nat} (h : k < w.heap.size) : (w.alloc o).heap[k]? = w.heap[k]? := heap_alloc_old w o h
theorem cell_alloc {w : World} {o : Obj} {b off : Nat} (h : b < w.heap.size) : (w.alloc o).cell? ⟨b, off, none⟩ = w.cell? ⟨b, off, none⟩ := World.cell?_of_block (heap_alloc_eq h)
theorem Rel.newBox [Kept] (h : Rel st a w G X F) (hX : ∀ b, w.heap.size ≤ b → X b) {nid : Nat} (hF : F nid) {cs : List AV} {vs : Array Value} {T : TypeId} (hc : ∀ y ∈ cs, y.isCell = true ∨ y = .undef)
    (ho : ∀ v ∈ vs.toList, v.oneCell' = true) (hv : RVs w G cs vs) :
    Rel (st.setBox nid cs) a (w.alloc (.cells vs T)) (G.addBox nid w.heap.size) X (fun i => F i ∧ i ≠ nid) ∧ Step false w (w.alloc (.cells vs T)) G (G.addBox nid w.heap.size) X := by
  have hn := h.free nid hF
  have hi := h.inv
  have hlt : ∀ id b, G.μ id = some b → b < w.heap.size := fun id b hb => (hi.box id b hb).2.1
  have hk : Keep w (w.alloc (.cells vs T)) G (G.addBox nid w.heap.size) (fun _ => False) := {
    S := fun _ _ _ hs => hs
    cell := fun fl b o hs => cell_alloc (hi.lt fl b o hs)
    row := fun id _ hal => ⟨hal, rfl, rfl, rfl, fun g hg => ⟨hg, heap_alloc_eq (hi.row id g hal hg).2.1⟩⟩
    box := fun id b hb => by
      show (if id = nid then some w.heap.size else G.μ id) = some b
      rw [if_neg (fun e => by rw [e, hn.2] at hb; simp at hb)]
      exact hb }
  have hμ : ∀ {i b}, (G.addBox nid w.heap.size).μ i = some b → (i = nid ∧ b = w.heap.size) ∨ (i ≠ nid ∧ G.μ i = some b) := by
    intro i b hb
    simp only [Gh.addBox] at hb
    split at hb
    · rename_i e; exact .inl ⟨e, by simpa using hb.symm⟩
    · rename_i e; exact .inr ⟨e, hb⟩
  refine ⟨⟨h.size, h.defers, fun i => hk.rv (h.slot i), fun id ds hd => ?_, ?_, fun id hid => ?_⟩, ?_⟩
  · simp only [St.box, St.setBox, look_cons] at hd
    split at hd
    · rename_i e
      subst e
      obtain rfl := Option.some.inj hd
      refine ⟨w.heap.size, vs, T, by simp [Gh.addBox], heap_alloc_new w _, hv.1, hc, ho, fun j hj => hk.rv (hv.2 j hj)⟩
    · rename_i e
      exact (h.box id ds hd).keep hk (fun b hb => heap_alloc_eq (hlt id b hb))
  · exact {
      nb := by have := hi.nb; simp only [Gh.addBox, World.alloc, Array.size_push]; omega
      kept := hi.keeps fun b hb _ => heap_alloc_eq hb
      row := fun i g hal hg => by
        obtain ⟨h1, h2, h3⟩ := hi.row i g hal hg
        exact ⟨h1, by simp only [World.alloc, Array.size_push]; omega, h3⟩
      plain := fun i g hal hg => by
        obtain ⟨cur, e, h2⟩ := hi.plain i g hal hg
        exact ⟨cur, e, (heap_alloc_eq (hi.row i g hal hg).2.1).trans h2⟩
      box := fun i b hb => by
        rcases hμ hb with ⟨_, rfl⟩ | ⟨_, hb⟩
        · exact ⟨hX _ (Nat.le_refl _), by simp only [World.alloc, Array.size_push]; omega, hi.nb⟩
        · obtain ⟨h1, h2, h3⟩ := hi.box i b hb
          exact ⟨h1, by simp only [World.alloc, Array.size_push]; omega, h3⟩
      rows := hi.rows
      boxes := fun i j b hi' hj' => by
        rcases hμ hi' with ⟨e1, rfl⟩ | ⟨_, hb⟩ <;> rcases hμ hj' with ⟨e2, e3⟩ | ⟨_, hb'⟩
        · rw [e1, e2]
        · have := hlt _ _ hb'; omega
        · subst e3; have := hlt _ _ hb; omega
        · exact hi.boxes i j b hb hb'
      rowBox := fun i j b hal hb hj => by
        rcases hμ hj with ⟨_, rfl⟩ | ⟨_, hj⟩
        · have := (hi.row i _ hal hb).2.1; omega
        · exact hi.rowBox i j b hal hb hj
      lt := fun fl b o hs => by have := hi.lt fl b o hs; simp only [World.alloc, Array.size_push]; omega
      old := hi.old
      new := fun b o hs => by
        obtain ⟨h1, cur, e, h2⟩ := hi.new b o hs
        exact ⟨h1, cur, e, (heap_alloc_eq (hi.lt _ b o hs)).trans h2⟩
      sBox := fun fl b o i hs hb => by
        rcases hμ hb with ⟨_, rfl⟩ | ⟨_, hb⟩
        · have := hi.lt fl _ o hs; omega
        · exact hi.sBox fl b o i hs hb
      sRow := hi.sRow }
  · refine ⟨(h.free id hid.1).1, ?_⟩
    show (if id = nid then some w.heap.size else G.μ id) = none
    rw [if_neg hid.2]
    exact (h.free id hid.1).2
  · exact ⟨rfl, rfl, rfl, by simp only [World.alloc, Array.size_push]; omega, fun b hb _ => heap_alloc_eq hb, rfl, fun _ _ _ _ hs => hs, fun fl b o _ hs => cell_alloc (hi.lt fl b o hs), fun _ _ _ hs => .inl hs, rfl, fun i b _ hb => hk.box i b hb⟩
theorem St.scrub_get (st : St) (ids : List Nat) (i : Nat) : (st.scrub ids).get i = st.get i ∧ ids = [] ∨ (st.scrub ids).get i = (st.get i).mapO (fun id fz e sz xs => if id ∈ ids then .undef else .own id fz e sz xs) .ptr (fun d id fz e sz xs i off => if id ∈ ids then .undef else .eptr d id fz e sz xs i off) (fun _ => .nils) := by
  cases ids with
  | nil => exact .inl ⟨rfl, rfl⟩
  | cons x r => exact .inr (St.get_mapO _ _ _ _ _)
theorem St.scrub_box (st : St) (ids : List Nat) (i : Nat) : (st.scrub ids).box i = st.box i ∧ ids = [] ∨ (st.scrub ids).box i = (st.box i).map fun cs => cs.map (AV.mapO (fun id fz e sz xs => if id ∈ ids then .undef else .own id fz e sz xs) .ptr (fun d id fz e sz xs i off => if id ∈ ids then .undef else .eptr d id fz e sz xs i off) (fun _ => .nils)) := by
  cases ids with
  | nil => exact .inl ⟨rfl, rfl⟩
  | cons x r => exact .inr (St.box_mapO _ _ _ _ _)
theorem scrub_cell (ids : List Nat) (y : AV) (h : y.isCell = true ∨ y = .undef) :
    (y.mapO (fun id fz e sz xs => if id ∈ ids then .undef else .own id fz e sz xs) .ptr (fun d id fz e sz xs i off => if id ∈ ids then .undef else .eptr d id fz e sz xs i off) (fun _ => .nils)).isCell = true ∨
      (y.mapO (fun id fz e sz xs => if id ∈ ids then .undef else .own id fz e sz xs) .ptr (fun d id fz e sz xs i off => if id ∈ ids then .undef else .eptr d id fz e sz xs i off) (fun _ => .nils)) = .undef := by
  cases y with
  | undef => exact .inr rfl
  | own id fz e sz xs =>
    simp only [AV.mapO]
    split
    · exact .inr rfl
    · exact .inl rfl
  | eptr d id fz e sz xs i off =>
    simp only [AV.mapO]
    split
    · exact .inr rfl
    · exact .inl rfl
  | agg cs => rcases h with h | h <;> simp [AV.isCell] at h
  | tup cs => rcases h with h | h <;> simp [AV.isCell] at h
  | _ => exact .inl rfl
theorem Rel.scrub [Kept] (h : Rel st a w G X F) {ids : List Nat} (hk : Keep w w' G G' (fun id => id ∈ ids)) (hb : ∀ id b, G.μ id = some b → w'.heap[b]? = w.heap[b]?) (hi : Inv w' G' X) {F' : Nat → Prop} (hf : ∀ id, F' id → ¬ G'.al id ∧ G'.μ id = none) :
    Rel (st.scrub ids) a w' G' X F' := by
  have hnt : (st.scrub ids).nt = st.nt := by cases ids <;> rfl
  have hke : ids = [] → Keep w w' G G' (fun _ => False) := fun e => ⟨hk.S, hk.cell, fun id hn => hk.row id (by rw [e]; simp), hk.box⟩
  refine ⟨by rw [hnt]; exact h.size, h.defers, fun i => ?_, fun id cs hc => ?_, hi, hf⟩
  · rcases st.scrub_get ids i with ⟨e, e2⟩ | e
    · rw [e]; exact (hke e2).rv (h.slot i)
    · rw [e]; exact hk.scrub (h.slot i)
  · rcases st.scrub_box ids id with ⟨e, e2⟩ | e
    · rw [e] at hc
      exact (h.box id cs hc).keep (hke e2) (hb id)
    · rw [e] at hc
      obtain ⟨cs0, hc0, rfl⟩ := Option.map_eq_some_iff.1 hc
      obtain ⟨b, vs, T, h1, h2, h3, h4, h5, h6⟩ := h.box id cs0 hc0
      refine ⟨b, vs, T, hk.box _ _ h1, (hb id b h1).trans h2, by simpa using h3, fun y hy => ?_, h5, fun j hj => ?_⟩
      · obtain ⟨y0, hy0, rfl⟩ := List.mem_map.1 hy
        exact scrub_cell ids y0 (h4 y0 hy0)
      · rw [List.getElem_map]
        exact hk.scrub (h6 j (by simpa using hj))
theorem Rel.newRow [Kept] (h : Rel st a w G X F) (hX : ∀ b, w.heap.size ≤ b → X b) {nid : Nat} (hF : F nid) {dead : List Nat} (hdead : ∀ i ∈ dead, G.al i) {v : Value} {L : Nat} {own : Nat → Prop} {fz : Bool} {e sz : Nat} {xs : List AV}
    (hos : w'.os = w.os) (htape : w'.tape = w.tape) (hout : w'.output = w.output) (hsize : w.heap.size ≤ w'.heap.size)
    (hheap : ∀ k, k < w.heap.size → (∀ i ∈ dead, ¬ G.own i k) → w'.heap[k]? = w.heap[k]?)
    (hcell : ∀ fl b o, G.S fl b o → w'.cell? ⟨b, o, none⟩ = w.cell? ⟨b, o, none⟩)
    (hplain : ∀ i ∈ dead, ∀ b, G.own i b → ∃ cur e, w'.heap[b]? = some (.cells cur e (0, 0)))
    (hown : ∀ g, own g → (w.heap.size ≤ g ∧ g < w'.heap.size ∧ ∃ cur e, w'.heap[g]? = some (.cells cur e (0, 0))) ∨ ∃ i ∈ dead, G.own i g)
    (hS : ∀ fl b o, G.S fl b o → own b → v.ownBlock = some b ∧ o < L)
    (hL : L ≤ (if fz then rowOff v + xs.length * sz else 0)) (ht : TR w' G.S own (.tr e sz xs) v) :
    Rel (st.scrub dead) a w' (G.addRow nid v L own sz dead) X (fun i => F i ∧ i ≠ nid) ∧ Step false w w' G (G.addRow nid v L own sz dead) X ∧ RV w' (G.addRow nid v L own sz dead) (.own nid fz e sz xs) v := by
  have hn := h.free nid hF
  have hi := h.inv
  have hnd : nid ∉ dead := fun hd => hn.1 (hdead nid hd)
  have hρ : ∀ {i}, i ≠ nid → (G.addRow nid v L own sz dead).ρ i = G.ρ i := fun hne => by simp [Gh.addRow, hne]
  have hρn : (G.addRow nid v L own sz dead).ρ nid = v := by simp [Gh.addRow]
  have how : ∀ {i}, i ≠ nid → (G.addRow nid v L own sz dead).own i = G.own i := fun hne => by simp [Gh.addRow, hne]
  have hown' : (G.addRow nid v L own sz dead).own nid = own := by simp [Gh.addRow]
  have hal : ∀ {i}, (G.addRow nid v L own sz dead).al i → i = nid ∨ (i ≠ nid ∧ G.al i ∧ i ∉ dead) := by
    intro i hai
    by_cases e : i = nid
    · exact .inl e
    · rcases hai with rfl | hai
      · exact absurd rfl e
      · exact .inr ⟨e, hai⟩
  have hother : ∀ i g, G.al i → i ∉ dead → G.own i g → w'.heap[g]? = w.heap[g]? := fun i g h1 h2 h3 =>
    hheap g (hi.row i g h1 h3).2.1 (fun d hd hdg => hi.rows d i g (hdead d hd) h1 (fun e => h2 (e ▸ hd)) hdg h3)
  have hbox : ∀ id b, G.μ id = some b → w'.heap[b]? = w.heap[b]? := fun id b hb =>
    hheap b (hi.box id b hb).2.1 (fun d hd hdb => hi.rowBox d id b (hdead d hd) hdb hb)
  have hk : Keep w w' G (G.addRow nid v L own sz dead) (fun id => id ∈ dead) := {
    S := fun _ _ _ hs => hs
    cell := hcell
    row := fun id hid hai => by
      have hne : id ≠ nid := fun e => hn.1 (e ▸ hai)
      exact ⟨.inr ⟨hai, hid⟩, hρ hne, by simp [Gh.addRow, hne], by simp [Gh.addRow, hne], fun g hg => ⟨by rw [how hne]; exact hg, hother id g hai hid hg⟩⟩
    box := fun _ _ hb => hb }
  have hvn : ∀ i g, G.al i → i ∉ dead → G.own i g → ¬ own g := by
    intro i g h1 h2 h3 h4
    rcases hown g h4 with ⟨h5, _⟩ | ⟨d, hd, h5⟩
    · have := (hi.row i g h1 h3).2.1; omega
    · exact hi.rows d i g (hdead d hd) h1 (fun e => h2 (e ▸ hd)) h5 h3
  have hinv : Inv w' (G.addRow nid v L own sz dead) X := {
    nb := Nat.le_trans hi.nb hsize
    kept := hi.keeps fun b hb hx => hheap b hb fun i hd' hb' => hx (hi.row i b (hdead i hd') hb').1
    row := fun i g hai hg => by
      rcases hal hai with rfl | ⟨hne, h1, h2⟩
      · rw [hown'] at hg
        rcases hown g hg with ⟨h1, h2, _⟩ | ⟨i, hd, h1⟩
        · exact ⟨hX g h1, h2, Nat.le_trans hi.nb h1⟩
        · obtain ⟨h2, h3, h4⟩ := hi.row i g (hdead i hd) h1
          exact ⟨h2, Nat.lt_of_lt_of_le h3 hsize, h4⟩
      · rw [how hne] at hg
        obtain ⟨h3, h4, h5⟩ := hi.row i g h1 hg
        exact ⟨h3, Nat.lt_of_lt_of_le h4 hsize, h5⟩
    plain := fun i g hai hg => by
      rcases hal hai with rfl | ⟨hne, h1, h2⟩
      · rw [hown'] at hg
        rcases hown g hg with ⟨_, _, h3⟩ | ⟨i, hd, h1⟩
        · exact h3
        · exact hplain i hd g h1
      · rw [how hne] at hg
        obtain ⟨cur, e, h3⟩ := hi.plain i g h1 hg
        exact ⟨cur, e, (hother i g h1 h2 hg).trans h3⟩
    box := fun i b hb => by
      obtain ⟨h3, h4, h5⟩ := hi.box i b hb
      exact ⟨h3, Nat.lt_of_lt_of_le h4 hsize, h5⟩
    rows := fun i j g hai haj hij hg hg' => by
      rcases hal hai with rfl | ⟨hne, h1, h2⟩ <;> rcases hal haj with rfl | ⟨hne', h1', h2'⟩
      · exact hij rfl
      · rw [hown'] at hg; rw [how hne'] at hg'; exact hvn j g h1' h2' hg' hg
      · rw [how hne] at hg; rw [hown'] at hg'; exact hvn i g h1 h2 hg hg'
      · rw [how hne] at hg; rw [how hne'] at hg'; exact hi.rows i j g h1 h1' hij hg hg'
    boxes := hi.boxes
    rowBox := fun i j b hai hg hb => by
      rcases hal hai with rfl | ⟨hne, h1, h2⟩
      · rw [hown'] at hg
        rcases hown b hg with ⟨h5, _⟩ | ⟨d, hd, h5⟩
        · have := (hi.box j b hb).2.1; omega
        · exact hi.rowBox d j b (hdead d hd) h5 hb
      · rw [how hne] at hg; exact hi.rowBox i j b h1 hg hb
    lt := fun fl b o hs => Nat.lt_of_lt_of_le (hi.lt fl b o hs) hsize
    old := hi.old
    new := fun b o hs => by
      obtain ⟨h1, cur, e, h2⟩ := hi.new b o hs
      refine ⟨h1, ?_⟩
      by_cases hd : ∃ i ∈ dead, G.own i b
      · obtain ⟨i, hd, hb⟩ := hd; exact hplain i hd b hb
      · exact ⟨cur, e, (hheap b (hi.lt _ b o hs) (fun i hd' hb => hd ⟨i, hd', hb⟩)).trans h2⟩
    sBox := hi.sBox
    sRow := fun fl b o i hs hai hg => by
      rcases hal hai with rfl | ⟨hne, h1, h2⟩
      · rw [hown'] at hg
        have hl : (G.addRow i v L own sz dead).lim i = L := by simp [Gh.addRow]
        rw [hl, hρn]
        exact hS fl b o hs hg
      · rw [how hne] at hg
        have hl : (G.addRow nid v L own sz dead).lim i = G.lim i := by simp [Gh.addRow, hne]
        rw [hl, hρ hne]
        exact hi.sRow fl b o i hs h1 hg }
  refine ⟨h.scrub hk hbox hinv (fun id hid => ?_), ⟨hos, htape, hout, hsize, fun b hb hx => ?_, rfl, fun _ _ _ _ hs => hs, fun fl b o _ hs => hcell fl b o hs, fun _ _ _ hs => .inl hs, rfl, fun _ _ _ h => h⟩, ?_⟩
  · refine ⟨fun hai => ?_, (h.free id hid.1).2⟩
    rcases hal hai with e | ⟨_, h1, _⟩
    · exact hid.2 e
    · exact (h.free id hid.1).1 h1
  · exact hheap b hb (fun i hd hg => hx (hi.row i b (hdead i hd) hg).1)
  · have := RV.own (w := w') (G := G.addRow nid v L own sz dead) nid fz e sz xs ⟨.inl rfl, by simp [Gh.addRow], by simpa [Gh.addRow] using hL, by rw [hρn, hown']; exact ht⟩
    rw [hρn] at this
    exact this
end
end Go.Proofs.Ytggkeechdakccaa.Flat
/-
Rows that are handed on to be read.
-/
namespace Go.Proofs.Ytggkeechdakccaa.Flat
section
variable {st : St} {a : Act} {w w' : World} {G G' : Gh} {X F : Nat → Prop}
def rowEnd (G : Gh) (id : Nat) : Nat := rowOff (G.ρ id) + rowLen (G.ρ id) * G.esz id
theorem RowOK.ends {id : Nat} {fz : Bool} {e sz : Nat} {xs : List AV} (h : RowOK w G id fz e sz xs) : rowEnd G id = rowOff (G.ρ id) + xs.length * sz := by
  obtain ⟨A, c, h1, _⟩ := h.header
  unfold rowEnd
  rw [h.2.1, h1]
  rfl
theorem RowOK.limEnd {id : Nat} {fz : Bool} {e sz : Nat} {xs : List AV} (h : RowOK w G id fz e sz xs) : G.lim id ≤ rowEnd G id := by
  rw [h.ends]
  have := h.2.2.1
  split at this <;> omega
def Gh.more (G : Gh) (w : World) (Rw Bs : Nat → Prop) : Cells := fun fl b o =>
  G.S fl b o ∨ (fl = true ∧ ((∃ id, Rw id ∧ G.al id ∧ G.own id b ∧ ((G.ρ id).ownBlock = some b → o < rowEnd G id)) ∨ (∃ id, Bs id ∧ G.μ id = some b)))
theorem shuts_eq (xs : List AV) : AV.shuts xs = xs.map AV.shut := by
  induction xs with
  | nil => rfl
  | cons x xs ih => simp only [AV.shuts, List.map_cons, ih]
theorem shut_cells (x : AV) : x.shut.cells = x.cells.map AV.shut := by
  cases x <;> first | rfl | (simp only [AV.shut, AV.cells, shuts_eq])
theorem shut_cell (x : AV) : x.shut.isCell = x.isCell := by cases x <;> rfl
theorem flat_shuts (xs : List AV) : flat (AV.shuts xs) = (flat xs).map AV.shut := by
  induction xs with
  | nil => rfl
  | cons x xs ih => rw [AV.shuts, flat_cons, flat_cons, ih, shut_cells, List.map_append]
theorem RO.shut_eq {S : Cells} {a : AV} {v : Value} (h : RO w S a v) : a.shut = a := by
  induction h with
  | agg S cs vs hl hr ih => rw [AV.shut, shuts_eq, map_id_of ih]
  | _ => rfl
theorem RowAt.sl {S S' : Cells} {F : Nat → Prop} {e sz : Nat} {xs : List AV} {g off cap : Nat} {cur : Array Value} {Fs : Nat → Nat → Prop} (h : RowAt w S F e sz xs g off cap cur Fs)
    (hS : ∀ j, j < xs.length * sz → S' true g (off + j)) (hr : ∀ j (hj : j < (flat xs).length), RO w S' (flat xs)[j].shut (cur.getD (off + j) undef)) : RO w S' (.sl true (AV.shuts xs)) (.slice (some ⟨g, off, none⟩) xs.length cap) := by
  by_cases hne : xs = []
  · subst hne
    exact .slNil _ _ _ _ (fun e => by simp at e)
  · have hl : (AV.shuts xs).length = xs.length := by rw [shuts_eq, List.length_map]
    have := RO.sl (w := w) S' true (AV.shuts xs) ⟨g, off, none⟩ cap sz (fun j => cur.getD (off + j) undef) (by rw [shuts_eq]; simpa using hne) (by rw [hl]; exact h.le) rfl
      (fun x hx => by
        rw [shuts_eq] at hx
        obtain ⟨y, hy, rfl⟩ := List.mem_map.1 hx
        rw [shut_cells, List.length_map]
        exact h.wide y hy)
      (fun y hy => by
        rw [flat_shuts] at hy
        obtain ⟨z, hz, rfl⟩ := List.mem_map.1 hy
        rw [shut_cell]
        exact h.cell z hz)
      (fun j hj => by
        rw [hl] at hj
        exact ⟨hS j hj, by rw [add_eq rfl]; exact h.cellAt hj⟩)
      (fun j hj => by
        have hj' : j < (flat xs).length := by rw [flat_shuts] at hj; simpa using hj
        have e1 : (flat (AV.shuts xs))[j] = (flat xs)[j].shut := by simp [flat_shuts]
        rw [e1]
        exact (hr j hj').mono (fun fl b o hs => ⟨.inl rfl, hs⟩) (fun _ _ _ _ => rfl))
    rwa [hl] at this
theorem TR.shut {S : Cells} {F : Nat → Prop} {a : AV} {v : Value} (h : TR w S F a v) : ∀ {S' : Cells}, (∀ fl b o, S fl b o → S' fl b o) → (∀ b, F b → ∀ o, S' true b o) → RO w S' a.shut v := by
  induction h with
  | ro F h => exact fun hS _ => by rw [h.shut_eq]; exact h.mono hS (fun _ _ _ _ => rfl)
  | nil F e sz => exact fun _ _ => .slNil _ _ _ _ (fun _ => rfl)
  | row F e sz xs g off cap cur Fs hg hh hn hm hs hsz hc hF hd hr ih =>
    intro S' hS hF'
    exact RowAt.sl ⟨hg, hh, hn, hm, hs, hsz, hc, hF, hd, hr⟩ (fun j _ => hF' g hg _) (fun j hj => ih j hj hS (fun b hb o => hF' b (hF j b hb).1 o))
theorem RowOK.sl {id : Nat} {fz : Bool} {e sz : Nat} {xs : List AV} (h : RowOK w G id fz e sz xs) {S : Cells} (hS : ∀ fl b o, G.S fl b o → S fl b o)
    (hrow : ∀ b o, G.own id b → ((G.ρ id).ownBlock = some b → o < rowEnd G id) → S true b o) : RO w S (.sl true (AV.shuts xs)) (G.ρ id) := by
  have hends := h.ends
  rcases h.2.2.2.cases with ⟨rfl, h6⟩ | ⟨g, off, cap, cur, Fs, h5, hat⟩
  · rw [h6]
    exact .slNil _ _ _ _ (fun _ => rfl)
  · rw [h5] at hrow hends ⊢
    refine hat.sl (fun j hj => hrow g _ hat.own (fun _ => ?_)) (fun j hj => (hat.rel j hj).shut hS (fun b hb o => hrow b o (hat.sub j b hb).1 (fun e => ?_)))
    · rw [hends]; simp only [rowOff]; omega
    · simp only [Value.ownBlock, Option.some.injEq] at e
      exact absurd e.symm (hat.sub j b hb).2
theorem RV.sub_sl {id : Nat} {fz : Bool} {e sz : Nat} {xs : List AV} {i k : Nat} {v : Value} (h : RV w G (.eptr true id fz e sz xs i k) v) {r : Nat × Nat × List AV} (hin : AV.inner xs i k = some r) {S : Cells} (hS : ∀ fl b o, G.S fl b o → S fl b o)
    (hrow : ∀ b o, G.own id b → ((G.ρ id).ownBlock = some b → o < rowEnd G id) → S true b o) : RO w S (.sl true (AV.shuts r.2.2)) v := by
  obtain ⟨e', sz', ys⟩ := r
  obtain ⟨hk, F, g, h1, h2, ht⟩ := h.sub_inv hin
  exact ht.shut hS (fun b hb o => hrow b o (h1 b hb).1 (fun e => by rw [h2] at e; exact absurd (Option.some.inj e).symm (h1 b hb).2))
theorem RV.mapRO {S : Cells} {f : Nat → Bool → Nat → Nat → List AV → AV} {g : Nat → Nat → AV} {h : Bool → Nat → Bool → Nat → Nat → List AV → Nat → Nat → AV} {z : Unit → AV}
    (hro : ∀ a v, RO w G.S a v → RO w S a v)
    (hown : ∀ id fz e sz xs, RowOK w G id fz e sz xs → RO w S (f id fz e sz xs) (G.ρ id))
    (hptr : ∀ id off b, G.μ id = some b → RO w S (g id off) (.pointer (some ⟨b, off, none⟩)))
    (heptr : ∀ id fz e sz xs i off ad n c, RowOK w G id fz e sz xs → G.ρ id = .slice (some ad) n c → RO w S (h false id fz e sz xs i off) (.pointer (some (ad.add (i * sz + off)))))
    (hsub : ∀ id fz e sz xs i off v, RV w G (.eptr true id fz e sz xs i off) v → RO w S (h true id fz e sz xs i off) v)
    (hz : RO w S (z ()) (.slice none 0 0))
    {a : AV} {v : Value} (hr : RV w G a v) : RO w S (a.mapO f g h z) v := by
  induction hr with
  | ro hr => rw [hr.mapO_eq]; exact hro _ _ hr
  | nils => exact hz
  | own id fz e sz xs hk => exact hown _ _ _ _ _ hk
  | ptr id off b hk => exact hptr _ _ _ hk
  | eptr id fz e sz xs i off ad n c hk hρ => exact heptr _ _ _ _ _ _ _ _ _ _ hk hρ
  | sub id fz e sz xs i off ad n c v x hk hρ hx ho hv => exact hsub _ _ _ _ _ _ _ _ (.sub _ _ _ _ _ _ _ _ n c v x hk hρ hx ho hv)
  | agg cs vs hl hr ih => rw [AV.mapO, AV.mapOs_eq]; exact .agg _ _ _ (by simpa using hl) fun j hj => by rw [getD_map_lt]; exact ih j (by simpa using hj)
  | tup cs vs hl hr ih => rw [AV.mapO, AV.mapOs_eq]; exact .tup _ _ _ (by simpa using hl) fun j hj => by rw [getD_map_lt]; exact ih j (by simpa using hj)
  | clo n cs vs hl hr ih => rw [AV.mapO, AV.mapOs_eq]; exact .clo _ _ _ _ (by simpa using hl) fun j hj => by rw [getD_map_lt]; exact ih j (by simpa using hj)
theorem RowOK.inR {id : Nat} {fz : Bool} {e sz : Nat} {xs : List AV} (h : RowOK w G id fz e sz xs) {Rw Bs : Nat → Prop} (hR : Rw id) (b o : Nat) (hb : G.own id b) (ho : (G.ρ id).ownBlock = some b → o < rowEnd G id) : G.more w Rw Bs true b o :=
  .inr ⟨rfl, .inl ⟨id, hR, h.1, hb, ho⟩⟩
theorem RV.rows_al {v : AV} {x : Value} (h : RV w G v x) : ∀ id ∈ v.rows, ∃ fz e sz xs, RowOK w G id fz e sz xs := by
  have hss : ∀ (cs : List AV) (id : Nat), id ∈ AV.rowss cs → ∃ j, ∃ h : j < cs.length, id ∈ cs[j].rows := by
    intro cs
    induction cs with
    | nil => intro id h; simp [AV.rowss] at h
    | cons c cs ih =>
      intro id h
      simp only [AV.rowss, List.mem_append] at h
      rcases h with h | h
      · exact ⟨0, by simp, h⟩
      · obtain ⟨j, hj, hm⟩ := ih id h
        exact ⟨j + 1, by simpa using hj, by simpa using hm⟩
  have hro : ∀ {S : Cells} {a : AV} {v : Value}, RO w S a v → a.rows = [] := by
    intro S a v h
    have hss' : ∀ (cs : List AV), (∀ j (h : j < cs.length), cs[j].rows = []) → AV.rowss cs = [] := by
      intro cs hc
      apply List.eq_nil_iff_forall_not_mem.2
      intro id hid
      obtain ⟨j, hj, hm⟩ := hss cs id hid
      rw [hc j hj] at hm
      simp at hm
    induction h with
    | agg S cs vs hl hr ih => simp only [AV.rows]; exact hss' cs ih
    | tup S cs vs hl hr ih => simp only [AV.rows]; exact hss' cs ih
    | clo S f cs vs hl hr ih => simp only [AV.rows]; exact hss' cs ih
    | _ => rfl
  induction h with
  | ro h => intro id hid; rw [hro h] at hid; simp at hid
  | nils => intro id hid; simp [AV.rows] at hid
  | own id fz e sz xs h => intro i hi; (obtain rfl : i = id := by simpa [AV.rows] using hi); exact ⟨_, _, _, _, h⟩
  | ptr => intro id hid; simp [AV.rows] at hid
  | eptr id fz e sz xs i off ad n c h hρ => intro i hi; (obtain rfl : i = id := by simpa [AV.rows] using hi); exact ⟨_, _, _, _, h⟩
  | sub id fz e sz xs i off ad n c v x h hρ => intro i hi; (obtain rfl : i = id := by simpa [AV.rows] using hi); exact ⟨_, _, _, _, h⟩
  | agg cs vs hl hr ih => intro id hid; simp only [AV.rows] at hid; obtain ⟨j, hj, hm⟩ := hss cs id hid; exact ih j hj id hm
  | tup cs vs hl hr ih => intro id hid; simp only [AV.rows] at hid; obtain ⟨j, hj, hm⟩ := hss cs id hid; exact ih j hj id hm
  | clo n cs vs hl hr ih => intro id hid; simp only [AV.rows] at hid; obtain ⟨j, hj, hm⟩ := hss cs id hid; exact ih j hj id hm
noncomputable def Gh.freeze (G : Gh) (w : World) (ids : List Nat) : Gh := { G with
  S := G.more w (fun i => i ∈ ids) (fun _ => False), lim := fun i => if i ∈ ids then rowEnd G i else G.lim i, own := fun i b => G.own i b ∧ (i ∈ ids → (G.ρ i).ownBlock = some b) }
theorem St.freeze_get (st : St) (ids : List Nat) (i : Nat) : (st.freeze ids).get i = st.get i ∧ ids = [] ∨ (st.freeze ids).get i = (st.get i).mapO (frzO ids) .ptr (frzE ids) (fun _ => .nils) := by
  cases ids with
  | nil => exact .inl ⟨rfl, rfl⟩
  | cons x r => exact .inr (St.get_mapO _ _ _ _ _)
theorem St.freeze_box (st : St) (ids : List Nat) (i : Nat) : (st.freeze ids).box i = st.box i ∧ ids = [] ∨ (st.freeze ids).box i = (st.box i).map fun cs => cs.map (AV.mapO (frzO ids) .ptr (frzE ids) (fun _ => .nils)) := by
  cases ids with
  | nil => exact .inl ⟨rfl, rfl⟩
  | cons x r => exact .inr (St.box_mapO _ _ _ _ _)
theorem RowOK.freeze {ids : List Nat} {id : Nat} {fz : Bool} {e sz : Nat} {xs : List AV} (h : RowOK w G id fz e sz xs) (hid : id ∈ ids) : RowOK w (G.freeze w ids) id true e sz (AV.shuts xs) := by
  have hends := h.ends
  have hl : (AV.shuts xs).length = xs.length := by rw [shuts_eq, List.length_map]
  refine ⟨h.1, h.2.1, ?_, ?_⟩
  · show (if id ∈ ids then rowEnd G id else G.lim id) ≤ _
    rw [if_pos hid, hends, if_pos rfl, hl]
    exact Nat.le_refl _
  · show TR w (G.freeze w ids).S ((G.freeze w ids).own id) (.tr e sz (AV.shuts xs)) (G.ρ id)
    rcases h.2.2.2.cases with ⟨rfl, h6⟩ | ⟨g, off, cap, cur, Fs, h5, hat⟩
    · rw [h6]; exact .nil _ _ _
    · rw [h5]
      have hfl : (flat (AV.shuts xs)).length = (flat xs).length := by rw [flat_shuts, List.length_map]
      have := TR.row (w := w) (S := (G.freeze w ids).S) ((G.freeze w ids).own id) e sz (AV.shuts xs) g off cap cur (fun _ _ => False) ⟨hat.own, fun _ => by rw [h5]; rfl⟩ hat.heap (by rw [hl]; exact hat.le) hat.max hat.size
        (fun x hx => by
          rw [shuts_eq] at hx
          obtain ⟨y, hy, rfl⟩ := List.mem_map.1 hx
          rw [shut_cells, List.length_map]
          exact hat.wide y hy)
        (fun y hy => by
          rw [flat_shuts] at hy
          obtain ⟨z, hz, rfl⟩ := List.mem_map.1 hy
          rw [shut_cell]
          exact hat.cell z hz) (fun _ _ h => h.elim) (fun _ _ _ h => h.elim)
        (fun j hj => by
          have hj' : j < (flat xs).length := by rw [hfl] at hj; exact hj
          have e1 : (flat (AV.shuts xs))[j] = (flat xs)[j].shut := by simp [flat_shuts]
          rw [e1]
          refine .ro _ ((hat.rel j hj').shut (fun _ _ _ hs => .inl hs) (fun b hb o => .inr ⟨rfl, .inl ⟨id, hid, h.1, (hat.sub j b hb).1, fun e => ?_⟩⟩))
          rw [h5] at e
          simp only [Value.ownBlock, Option.some.injEq] at e
          exact absurd e.symm (hat.sub j b hb).2)
      rwa [hl] at this
theorem RowOK.unfrozen {ids : List Nat} {id : Nat} {fz : Bool} {e sz : Nat} {xs : List AV} (h : RowOK w G id fz e sz xs) (hid : id ∉ ids) : RowOK w (G.freeze w ids) id fz e sz xs := by
  refine ⟨h.1, h.2.1, ?_, h.2.2.2.mono (fun _ _ _ hs => .inl hs) (fun _ _ _ _ => rfl) (fun _ _ => rfl) (fun b hb => ⟨hb, fun h => absurd h hid⟩)⟩
  show (if id ∈ ids then rowEnd G id else G.lim id) ≤ _
  rw [if_neg hid]
  exact h.2.2.1
theorem freeze_rv {ids : List Nat} {v : AV} {x : Value} (h : RV w G v x) : RV w (G.freeze w ids) (v.mapO (frzO ids) .ptr (frzE ids) (fun _ => .nils)) x := by
  have hro : ∀ a v, RO w G.S a v → RO w (G.freeze w ids).S a v := fun a v h => h.mono (fun _ _ _ hs => .inl hs) (fun _ _ _ _ => rfl)
  refine RV.map hro (fun id fz e sz xs hk => ?_) (fun id off b hb => .ptr _ _ _ hb) (fun id fz e sz xs i off ad n c hk hρ => ?_) (fun id fz e sz xs i off ad n c v x hk hρ hx ho hv => ?_) .nils h
  · unfold frzO
    split
    · rename_i hid; exact .own (G := G.freeze w ids) _ _ _ _ _ (hk.freeze hid)
    · rename_i hid; exact .own (G := G.freeze w ids) _ _ _ _ _ (hk.unfrozen hid)
  · unfold frzE
    split
    · rename_i hid; exact .eptr (G := G.freeze w ids) _ _ _ _ _ _ _ _ n c (hk.freeze hid) hρ
    · rename_i hid; exact .eptr (G := G.freeze w ids) _ _ _ _ _ _ _ _ n c (hk.unfrozen hid) hρ
  · unfold frzE
    split
    · rename_i hid
      simp only [if_true]
      split
      · rename_i r hr
        exact .ro (RV.sub_sl (.sub _ _ _ _ _ _ _ _ n c v x hk hρ hx ho hv) hr (fun _ _ _ hs => .inl hs) (fun b o hb hl => hk.inR hid b o hb hl))
      · exact rvUndef _
    · rename_i hid; exact .sub (G := G.freeze w ids) _ _ _ _ _ _ _ _ n c v x (hk.unfrozen hid) hρ hx ho hv
theorem Inv.freeze [Kept] (hi : Inv w G X) {ids : List Nat} (hids : ∀ id ∈ ids, ∃ fz e sz xs, RowOK w G id fz e sz xs) : Inv w (G.freeze w ids) X := by
  have hS : ∀ {fl b o}, (G.freeze w ids).S fl b o → G.S fl b o ∨ (fl = true ∧ ∃ id ∈ ids, G.al id ∧ G.own id b ∧ ((G.ρ id).ownBlock = some b → o < rowEnd G id)) := by
    intro fl b o hs
    rcases hs with hs | ⟨h1, h2 | ⟨_, h2, _⟩⟩
    · exact .inl hs
    · exact .inr ⟨h1, h2⟩
    · exact h2.elim
  exact {
    nb := hi.nb
    kept := hi.kept
    row := fun i g hal hg => hi.row i g hal hg.1
    plain := fun i g hal hg => hi.plain i g hal hg.1
    box := hi.box
    rows := fun i j g hai haj hij hg hg' => hi.rows i j g hai haj hij hg.1 hg'.1
    boxes := hi.boxes
    rowBox := fun i j b hal hg => hi.rowBox i j b hal hg.1
    lt := fun fl b o hs => by
      rcases hS hs with hs | ⟨_, id, _, hal, hg, _⟩
      · exact hi.lt fl b o hs
      · exact (hi.row id b hal hg).2.1
    old := fun b o hs => by
      rcases hS hs with hs | ⟨h, _⟩
      · exact hi.old b o hs
      · simp at h
    new := fun b o hs => by
      rcases hS hs with hs | ⟨_, id, hid, hal, hg, _⟩
      · exact hi.new b o hs
      · exact ⟨(hi.row id b hal hg).2.2, hi.plain id b hal hg⟩
    sBox := fun fl b o i hs hb => by
      rcases hS hs with hs | ⟨_, id, _, hal, hg, _⟩
      · exact hi.sBox fl b o i hs hb
      · exact hi.rowBox id i b hal hg hb
    sRow := fun fl b o i hs hal hg => by
      have hlim : (G.freeze w ids).lim i = if i ∈ ids then rowEnd G i else G.lim i := rfl
      have hρ : (G.freeze w ids).ρ i = G.ρ i := rfl
      rw [hlim, hρ]
      rcases hS hs with hs | ⟨_, id, hid, hal', hg', ho⟩
      · obtain ⟨h0, h1⟩ := hi.sRow fl b o i hs hal hg.1
        refine ⟨h0, ?_⟩
        split
        · rename_i hm
          obtain ⟨fz, e, sz, xs, hk⟩ := hids i hm
          exact Nat.lt_of_lt_of_le h1 hk.limEnd
        · exact h1
      · have : id = i := Classical.byContradiction fun hne => hi.rows id i b hal' hal hne hg' hg.1
        subst this
        rw [if_pos hid]
        exact ⟨hg.2 hid, ho (hg.2 hid)⟩ }
theorem freeze_cell (ids : List Nat) (y : AV) (h : y.isCell = true ∨ y = .undef) :
    (y.mapO (frzO ids) .ptr (frzE ids) (fun _ => .nils)).isCell = true ∨ (y.mapO (frzO ids) .ptr (frzE ids) (fun _ => .nils)) = .undef := by
  cases y with
  | undef => exact .inr rfl
  | agg cs => rcases h with h | h <;> simp [AV.isCell] at h
  | tup cs => rcases h with h | h <;> simp [AV.isCell] at h
  | own id fz e sz xs => simp only [AV.mapO, frzO]; split <;> exact .inl rfl
  | eptr d id fz e sz xs i off =>
    simp only [AV.mapO, frzE]
    split
    · split
      · split
        · exact .inl rfl
        · exact .inr rfl
      · exact .inl rfl
    · exact .inl rfl
  | _ => exact .inl rfl
theorem Rel.freeze [Kept] (h : Rel st a w G X F) {ids : List Nat} (hids : ∀ id ∈ ids, ∃ fz e sz xs, RowOK w G id fz e sz xs) :
    Rel (st.freeze ids) a w (G.freeze w ids) X F ∧ Step false w w G (G.freeze w ids) X := by
  have hnt : (st.freeze ids).nt = st.nt := by cases ids <;> rfl
  have hnil : ids = [] → ∀ {v : AV} {x : Value}, RV w G v x → RV w (G.freeze w ids) v x := by
    intro e v x hv
    refine Keep.rv (w := w) (w' := w) (G := G) (G' := G.freeze w ids) ⟨fun _ _ _ hs => Or.inl hs, fun _ _ _ _ => rfl, fun id _ hal => ⟨hal, rfl, by simp [Gh.freeze, e], rfl, fun g hg => ⟨⟨hg, fun h => by rw [e] at h; simp at h⟩, rfl⟩⟩, fun _ _ hb => hb⟩ hv
  refine ⟨⟨by rw [hnt]; exact h.size, h.defers, fun i => ?_, fun id cs hc => ?_, h.inv.freeze hids, h.free⟩, ?_⟩
  · rcases st.freeze_get ids i with ⟨e, e2⟩ | e
    · rw [e]; exact hnil e2 (h.slot i)
    · rw [e]; exact freeze_rv (h.slot i)
  · rcases st.freeze_box ids id with ⟨e, e2⟩ | e
    · rw [e] at hc
      obtain ⟨b, vs, T, h1, h2, h3, h4, h5, h6⟩ := h.box id cs hc
      exact ⟨b, vs, T, h1, h2, h3, h4, h5, fun j hj => hnil e2 (h6 j hj)⟩
    · rw [e] at hc
      obtain ⟨cs0, hc0, rfl⟩ := Option.map_eq_some_iff.1 hc
      obtain ⟨b, vs, T, h1, h2, h3, h4, h5, h6⟩ := h.box id cs0 hc0
      refine ⟨b, vs, T, h1, h2, by simpa using h3, fun y hy => ?_, h5, fun j hj => ?_⟩
      · obtain ⟨y0, hy0, rfl⟩ := List.mem_map.1 hy
        exact freeze_cell ids y0 (h4 y0 hy0)
      · rw [List.getElem_map]
        exact freeze_rv (h6 j (by simpa using hj))
  · refine ⟨rfl, rfl, rfl, Nat.le_refl _, fun _ _ _ => rfl, rfl, fun _ _ _ _ hs => .inl hs, fun _ _ _ _ _ => rfl, fun fl b o hs => ?_, rfl, fun _ _ _ h => h⟩
    rcases hs with hs | ⟨h1, ⟨id, _, hal, hg, _⟩ | ⟨_, h2, _⟩⟩
    · exact .inl hs
    · exact .inr ⟨h1, .inl (h.inv.row id b hal hg).1⟩
    · exact h2.elim
theorem RV.shutV {v : AV} {x : Value} (h : RV w G v x) {ids : List Nat} (hids : ∀ id ∈ v.rows, id ∈ ids) : RO w (G.freeze w ids).S v.shutV x := by
  have hS : ∀ fl b o, G.S fl b o → (G.freeze w ids).S fl b o := fun _ _ _ hs => Or.inl hs
  have hss : ∀ (cs : List AV) (j : Nat) (h : j < cs.length), ∀ id ∈ cs[j].rows, id ∈ AV.rowss cs := by
    intro cs
    induction cs with
    | nil => intro j hj; simp at hj
    | cons c cs ih =>
      intro j hj id hm
      simp only [AV.rowss, List.mem_append]
      cases j with
      | zero => exact .inl (by simpa using hm)
      | succ j => exact .inr (ih j (by simpa using hj) id (by simpa using hm))
  induction h with
  | ro h => rw [AV.shutV, h.mapO_eq]; exact h.mono hS (fun _ _ _ _ => rfl)
  | nils => exact .slNil _ _ _ _ (fun _ => rfl)
  | own id fz e sz xs hk => exact hk.sl hS (fun g o hg ho => hk.inR (hids id (by simp [AV.rows])) g o hg ho)
  | ptr id off b hk => exact .undef _ _
  | eptr => exact .undef _ _
  | sub id fz e sz xs i off ad n c v x hk hρ hx ho hv =>
    simp only [AV.shutV, AV.mapO, if_true]
    split
    · rename_i r hr
      exact RV.sub_sl (.sub _ _ _ _ _ _ _ _ n c v x hk hρ hx ho hv) hr hS (fun b o hb hl => hk.inR (hids id (by simp [AV.rows])) b o hb hl)
    · exact .undef _ _
  | agg cs vs hl hr ih => rw [AV.shutV, AV.mapO, AV.mapOs_eq]; exact .agg _ _ _ (by simpa using hl) fun j hj => by rw [getD_map_lt]; exact ih j (by simpa using hj) (fun id hm => hids id (hss cs j _ id hm))
  | tup cs vs hl hr ih => rw [AV.shutV, AV.mapO, AV.mapOs_eq]; exact .tup _ _ _ (by simpa using hl) fun j hj => by rw [getD_map_lt]; exact ih j (by simpa using hj) (fun id hm => hids id (hss cs j _ id hm))
  | clo n cs vs hl hr ih => rw [AV.shutV, AV.mapO, AV.mapOs_eq]; exact .clo _ _ _ _ (by simpa using hl) fun j hj => by rw [getD_map_lt]; exact ih j (by simpa using hj) (fun id hm => hids id (hss cs j _ id hm))
end
end Go.Proofs.Ytggkeechdakccaa.Flat
/-
Operations that make or write memory: the state behind them.
-/
namespace Go.Proofs.Ytggkeechdakccaa.Flat
def Done [Kept] (k : Bool) (P : Program) (o : Oper) (a : Act) (w : World) (G : Gh) (X F' : Nat → Prop) (st' : St) : Prop :=
  ∃ w' G', Step k w w' G G' X ∧ ((∃ v, (execOp a.eval o).run P w = .ok (.value v) w' ∧ Rel st' (a.put o.dst v) w' G' X F') ∨ ((execOp a.eval o).run P w = .ok .skip w' ∧ Rel st' (a.put o.dst undef) w' G' X F'))
section
variable {P : Program} {st st' : St} {a : Act} {w : World} {G : Gh} {X F : Nat → Prop} {nid : Nat} {o : Oper}
theorem Rel.weaken [Kept] {F' : Nat → Prop} (h : Rel st a w G X F) (hf : ∀ i, F' i → F i) : Rel st a w G X F' := ⟨h.size, h.defers, h.slot, h.box, h.inv, fun id hid => h.free id (hf id hid)⟩
theorem done_value [Kept] {k : Bool} {F' : Nat → Prop} {w' : World} {G' : Gh} {st1 : St} {x : AV} {v : Value} (hs : Step k w w' G G' X) (hr : Rel st1 a w' G' X F') (hx : RV w' G' x v) (hrun : (execOp a.eval o).run P w = .ok (.value v) w') (hp : st1.put o.dst x = some st') :
    Done k P o a w G X F' st' := ⟨w', G', hs, .inl ⟨v, hrun, (hr.put hx hp).1⟩⟩
theorem run_newRow (e : TypeId) (cells : Array Value) (w : World) : (newRow e cells).run P w = .ok ⟨w.heap.size, 0, none⟩ (w.alloc (.cells cells e)) := by
  simp [newRow]
theorem evAlloc_ok [Kept] {t : Nat} (h : Rel st a w G X F) (hX : ∀ b, w.heap.size ≤ b → X b) (hF : F nid) (hop : o.op = .alloc t) (he : evAlloc P t nid o.dst st = some st') :
    Done false P o a w G X (fun i => F i ∧ i ≠ nid) st' := by
  unfold evAlloc at he
  obtain ⟨ti, hti, he⟩ := Option.bind_eq_some_iff.1 he
  obtain ⟨z, hz, he⟩ := Option.bind_eq_some_iff.1 he
  obtain ⟨cs, hcs, he⟩ := Option.bind_eq_some_iff.1 he
  obtain ⟨h1, h2, h3⟩ := ofCells_ok (w := w) (G := G) hcs
  have hR := ofCells_RVs (w := w) (G := G) hcs
  have hone : ∀ v ∈ z.cells.toList, v.oneCell' = true := by
    intro v hv
    obtain ⟨j, hj, rfl⟩ := List.getElem_of_mem hv
    have h4 := h3 j (by omega)
    have h5 := h4.one (h2 _ (List.getElem_mem _))
    rw [List.getD_eq_getElem?_getD, List.getElem?_eq_getElem hj] at h5
    exact h5
  obtain ⟨hr, hs⟩ := h.newBox (T := t) hX hF (fun y hy => .inl (h2 y hy)) hone hR
  refine done_value hs hr (.ptr _ _ w.heap.size (by simp [Gh.addBox])) ?_ he
  have hzr := run_zero hti hz w
  simp only [execOp, hop]
  simp [Instr.alloc, hzr, newVar, run_newRow]
theorem cells_one {x : AV} {v : Value} (hx : RV w G x v) (hc : x.cells.all AV.isCell = true) : RVs w G x.cells v.cells ∧ ∀ u ∈ v.cells.toList, u.oneCell' = true := by
  have hu : x ≠ .undef := by intro e; subst e; simp [AV.cells, AV.isCell] at hc
  have hR := hx.cells hu
  refine ⟨hR, fun u hu => ?_⟩
  obtain ⟨j, hj, rfl⟩ := List.getElem_of_mem hu
  have hj' : j < x.cells.length := by rw [← hR.1]; simpa using hj
  have h4 := (hR.2 j hj').one (List.all_eq_true.1 hc _ (List.getElem_mem _))
  have hg := getD_some (xs := v.cells) (i := j) (by simpa using hj)
  rw [Array.getElem_toList]
  rw [Array.getElem?_eq_getElem (by simpa using hj)] at hg
  rw [Option.some.inj hg]
  exact h4
theorem evBox_ok [Kept] {t : Nat} {x : Operand} (h : Rel st a w G X F) (hX : ∀ b, w.heap.size ≤ b → X b) (hF : F nid) (hop : o.op = .box t x) (he : evBox nid o.dst (st.val x) st = some st') :
    Done false P o a w G X (fun i => F i ∧ i ≠ nid) st' := by
  have hx := h.sees.val x
  unfold evBox at he
  split at he
  · rename_i hc
    obtain ⟨hR, hone⟩ := cells_one hx hc
    obtain ⟨hr, hs⟩ := h.newBox (T := t) hX hF (fun y hy => .inl (List.all_eq_true.1 hc y hy)) hone hR
    refine done_value hs hr (.ptr _ _ w.heap.size (by simp [Gh.addBox])) ?_ he
    simp only [execOp, hop]
    simp [Instr.box, newVar, run_newRow]
  · simp at he
theorem Rel.setBox [Kept] (h : Rel st a w G X F) {id b : Nat} {cs cs' : List AV} {vs vs' : Array Value} {T : TypeId} (hb : st.box id = some cs) (hμ : G.μ id = some b) (hh : w.heap[b]? = some (.cells vs T (0, 0)))
    (hsz : vs'.size = vs.size) (hc : ∀ y ∈ cs', y.isCell = true ∨ y = .undef) (ho : ∀ v ∈ vs'.toList, v.oneCell' = true) (hR : RVs w G cs' vs') :
    Rel (st.setBox id cs') a (w.setRow b vs') G X F ∧ Step false w (w.setRow b vs') G G X := by
  have hi := h.inv
  have hlt := (hi.box id b hμ).2.1
  have hset : (w.setRow b vs').heap[b]? = some (.cells vs' T (0, 0)) := setRow_heap w b vs vs' T _ hh
  have hoth : ∀ k, k ≠ b → (w.setRow b vs').heap[k]? = w.heap[k]? := fun k hk => setRow_other w b k _ (fun e => hk e)
  have hsize : (w.setRow b vs').heap.size = w.heap.size := by simp
  have hcell : ∀ fl c o, G.S fl c o → (w.setRow b vs').cell? ⟨c, o, none⟩ = w.cell? ⟨c, o, none⟩ := by
    intro fl c o hs
    exact World.cell?_of_block (hoth c (fun e => hi.sBox fl c o id hs (by rw [e]; exact hμ)))
  have hk : Keep w (w.setRow b vs') G G (fun _ => False) := {
    S := fun _ _ _ hs => hs
    cell := hcell
    row := fun i _ hal => ⟨hal, rfl, rfl, rfl, fun g hg => ⟨hg, hoth g (fun e => hi.rowBox i id b hal (by rw [← e]; exact hg) hμ)⟩⟩
    box := fun _ _ hb => hb }
  refine ⟨⟨h.size, h.defers, fun i => hk.rv (h.slot i), fun i ds hd => ?_, ?_, h.free⟩, ?_⟩
  · simp only [St.box, St.setBox, look_cons] at hd
    split at hd
    · rename_i e
      subst e
      obtain rfl := Option.some.inj hd
      exact ⟨b, vs', T, hμ, hset, hR.1, hc, ho, fun j hj => hk.rv (hR.2 j hj)⟩
    · rename_i e
      exact (h.box i ds hd).keep hk (fun c hc => hoth c (fun e2 => e (hi.boxes i id b (by rw [← e2]; exact hc) hμ)))
  · exact {
      nb := by rw [hsize]; exact hi.nb
      kept := hi.keeps fun c _ hx => hoth c (fun e => hx (by rw [e]; exact (hi.box id b hμ).1))
      row := fun i g hal hg => by rw [hsize]; exact hi.row i g hal hg
      plain := fun i g hal hg => by
        obtain ⟨cur, e, h2⟩ := hi.plain i g hal hg
        exact ⟨cur, e, (hoth g (fun e => hi.rowBox i id b hal (by rw [← e]; exact hg) hμ)).trans h2⟩
      box := fun i c hc => by rw [hsize]; exact hi.box i c hc
      rows := hi.rows
      boxes := hi.boxes
      rowBox := hi.rowBox
      lt := fun fl c o hs => by rw [hsize]; exact hi.lt fl c o hs
      old := hi.old
      new := fun c o hs => by
        obtain ⟨h1, cur, e, h2⟩ := hi.new c o hs
        exact ⟨h1, cur, e, (hoth c (fun e2 => hi.sBox _ c o id hs (by rw [e2]; exact hμ))).trans h2⟩
      sBox := hi.sBox
      sRow := hi.sRow }
  · exact ⟨rfl, rfl, rfl, by rw [hsize]; exact Nat.le_refl _, fun c _ hx => hoth c (fun e => hx (by rw [e]; exact (hi.box id b hμ).1)), rfl, fun _ _ _ _ hs => hs, fun fl c o _ hs => hcell fl c o hs, fun _ _ _ hs => .inl hs, rfl, fun _ _ _ h => h⟩
theorem RVs.over {cs xs : List AV} {vs us : Array Value} {off : Nat} (h : RVs w G cs vs) (hx : RVs w G xs us) (hb : off + xs.length ≤ cs.length) :
    RVs w G (cs.take off ++ xs ++ cs.drop (off + xs.length)) (vs.toList.take off ++ us.toList ++ vs.toList.drop (off + xs.length)).toArray := by
  have h1 := h.1
  have h2 := hx.1
  refine ⟨by simp [h1, h2], fun j hj => ?_⟩
  have hg : ∀ (l : List Value), l.toArray.getD j undef = l.getD j undef := by intro l; simp [Array.getD_eq_getD_getElem?, List.getD_eq_getElem?_getD]
  rw [hg, List.getD_eq_getElem?_getD]
  simp only [List.length_append, List.length_take, List.length_drop] at hj
  by_cases c1 : j < off
  · rw [List.getElem_append_left (by simp; omega), List.getElem_append_left (by simp; omega), List.getElem_take, List.getElem?_append_left (by simp; omega), List.getElem?_append_left (by simp; omega), List.getElem?_take_of_lt c1, Array.getElem?_toList, ← Array.getD_eq_getD_getElem?]
    exact h.2 _ _
  · by_cases c2 : j < off + xs.length
    · rw [List.getElem_append_left (by simp; omega), List.getElem_append_right (by simp; omega), List.getElem?_append_left (by simp; omega), List.getElem?_append_right (by simp; omega)]
      have e1 : j - (List.take off cs).length = j - off := by simp; omega
      have e2 : j - (List.take off vs.toList).length = j - off := by simp; omega
      simp only [e1, e2]
      rw [Array.getElem?_toList, ← Array.getD_eq_getD_getElem?]
      exact hx.2 _ _
    · rw [List.getElem_append_right (by simp; omega), List.getElem?_append_right (by simp; omega)]
      have e1 : j - (List.take off cs ++ xs).length = j - (off + xs.length) := by simp; omega
      have e2 : j - (List.take off vs.toList ++ us.toList).length = j - (off + xs.length) := by simp; omega
      simp only [e1, e2, List.getElem_drop, List.getElem?_drop]
      have e3 : off + xs.length + (j - (off + xs.length)) = j := by omega
      simp only [e3]
      rw [Array.getElem?_toList, ← Array.getD_eq_getD_getElem?]
      exact h.2 _ _
theorem evStoreBox_ok [Kept] {t id off : Nat} {p x : Operand} {ti : TI} {cs : List AV} (h : Rel st a w G X F) (hop : o.op = .store t p x) (hti : tiOf P t = some ti) (hp : st.val p = .ptr id off) (hb : st.box id = some cs)
    (hl : (st.val x).cells.length = ti.size) (hc : (st.val x).cells.all AV.isCell = true) (hfit : off + ti.size ≤ cs.length)
    (he : (st.setBox id (cs.take off ++ (st.val x).cells ++ cs.drop (off + ti.size))).put o.dst .undef = some st') :
    Done false P o a w G X F st' := by
  have hpv := h.sees.val p
  rw [hp] at hpv
  obtain ⟨b, hbv, hμ⟩ : ∃ b, a.eval p = .pointer (some ⟨b, off, none⟩) ∧ G.μ id = some b := by
    generalize a.eval p = v at hpv
    cases hpv with
    | ro hr => cases hr
    | ptr _ _ b hμ => exact ⟨b, rfl, hμ⟩
  obtain ⟨hR, hone⟩ := cells_one (h.sees.val x) hc
  obtain ⟨b', vs, T, h1, h2, h3, h4, h5, h6⟩ := h.box id cs hb
  obtain rfl : b = b' := by rw [hμ] at h1; simpa using h1
  have hover := RVs.over ⟨h3, h6⟩ hR (by rw [hl]; exact hfit)
  rw [hl] at hover
  have hvl : (a.eval x).cells.size = ti.size := by rw [hR.1, hl]
  obtain ⟨hr, hs⟩ := h.setBox hb hμ h2 (by simp [h3, hvl]; omega) (fun y hy => by
      simp only [List.mem_append] at hy
      rcases hy with (hy | hy) | hy
      · exact h4 y (List.mem_of_mem_take hy)
      · exact .inl (List.all_eq_true.1 hc y hy)
      · exact h4 y (List.mem_of_mem_drop hy)) (fun v hv => by
      simp only [List.mem_append] at hv
      rcases hv with (hv | hv) | hv
      · exact h5 v (List.mem_of_mem_take hv)
      · exact hone v hv
      · exact h5 v (List.mem_of_mem_drop hv)) hover
  refine ⟨_, G, hs, .inr ⟨?_, (hr.put (rvUndef _) he).1⟩⟩
  have hst := run_storeCells_at P b off T (a.eval x).cells.toList 0 vs w h2 (by simp [h3, hvl]; omega) hone
  simp only [Nat.add_zero, Array.length_toList, hvl] at hst
  have hsz := run_size hti w
  simp only [execOp, hop, hbv]
  simp [Instr.storeAt, Instr.sureAddr, storeVar, hsz, hvl, hst]
end
end Go.Proofs.Ytggkeechdakccaa.Flat
/-
Rows: literals, make, append, elements written.
-/
namespace Go.Proofs.Ytggkeechdakccaa.Flat
section
variable {P : Program} {st st' : St} {a : Act} {w : World} {G : Gh} {X F : Nat → Prop} {nid : Nat} {o : Oper}
def Gh.under (G : Gh) (ids : List Nat) (b : Nat) : Prop := ∃ i ∈ ids, G.own i b ∧ (G.ρ i).ownBlock ≠ some b
theorem rowOf_ok {tree : Bool} {x : AV} {v : Value} {ys : List AV} {size : Nat} (hx : RV w G x v) (h : rowOf x = some ys) (hsz : ∀ y ∈ ys, y.cells.length = size) (hp : tree = true ∨ plains ys = true) :
    ∃ (A : Option Addr) (c : Nat) (news : List Value) (Fx : Nat → Nat → Prop), v = .slice A ys.length c ∧ (A = none → ys.length = 0) ∧ (A = none → c = 0) ∧ news.length = ys.length * size ∧ (∀ ad, A = some ad → ∀ j u, news[j]? = some u → w.cell? (ad.add j) = some u) ∧
      (∀ u ∈ news, u.oneCell' = true) ∧ (∀ y ∈ flat ys, y.isCell = true) ∧ (∀ j b, Fx j b → G.under (spent tree x) b) ∧ (∀ i j b, Fx i b → Fx j b → i = j) ∧ ∀ j (hj : j < (flat ys).length), TR w G.S (Fx j) (flat ys)[j] (news.getD j undef) := by
  have nil_case : ∀ {A : Option Addr} {c : Nat}, (A = none → c = 0) → ys = [] → v = .slice A 0 c → ∃ (A : Option Addr) (c : Nat) (news : List Value) (Fx : Nat → Nat → Prop), v = .slice A ys.length c ∧ (A = none → ys.length = 0) ∧ (A = none → c = 0) ∧ news.length = ys.length * size ∧ (∀ ad, A = some ad → ∀ j u, news[j]? = some u → w.cell? (ad.add j) = some u) ∧
      (∀ u ∈ news, u.oneCell' = true) ∧ (∀ y ∈ flat ys, y.isCell = true) ∧ (∀ j b, Fx j b → G.under (spent tree x) b) ∧ (∀ i j b, Fx i b → Fx j b → i = j) ∧ ∀ j (hj : j < (flat ys).length), TR w G.S (Fx j) (flat ys)[j] (news.getD j undef) := by
    intro A c hA hy hv
    subst hy
    exact ⟨A, c, [], fun _ _ => False, hv, fun _ => rfl, hA, by simp, fun _ _ j u h => by simp at h, by simp, by simp [flat], fun _ _ h => h.elim, fun _ _ _ h => h.elim, fun j hj => by simp [flat] at hj⟩
  cases x with
  | nils =>
    obtain rfl : [] = ys := by simpa [rowOf] using h
    exact nil_case (fun _ => rfl) rfl hx.nils_inv
  | sl fl xs =>
    obtain rfl : xs = ys := by simpa [rowOf] using h
    cases hx with
    | ro hr =>
      cases hr with
      | slNil _ _ A c hA => exact nil_case hA rfl rfl
      | sl _ _ _ ad c sz cv hne hc hsp hsz' hcell hS hr =>
        obtain ⟨y, hy⟩ := List.exists_mem_of_ne_nil xs hne
        obtain rfl : sz = size := by rw [← hsz' y hy, hsz y hy]
        have hfl : (flat xs).length = xs.length * sz := flat_length hsz'
        refine ⟨some ad, c, (List.range (xs.length * sz)).map cv, fun _ _ => False, rfl, by simp, by simp, by simp, fun ad' e j u hj => ?_, fun u hu => ?_, hcell, fun _ _ h => h.elim, fun _ _ _ h => h.elim, fun j hj => ?_⟩
        · obtain rfl : ad = ad' := by simpa using e
          simp only [List.getElem?_map, Option.map_eq_some_iff] at hj
          obtain ⟨k, hk, rfl⟩ := hj
          obtain ⟨h1, h2⟩ := List.getElem?_eq_some_iff.1 hk
          simp at h1 h2
          subst h2
          exact (hS j h1).2
        · obtain ⟨k, hk, rfl⟩ := List.mem_map.1 hu
          have hk' : k < (flat xs).length := by rw [hfl]; simpa using hk
          exact (hr k hk').one (hcell _ (List.getElem_mem _))
        · have : ((List.range (xs.length * sz)).map cv).getD j undef = cv j := by
            have hj' : j < xs.length * sz := by rw [← hfl]; exact hj
            simp [List.getD_eq_getElem?_getD, hj']
          rw [this]
          exact .ro _ ((hr j hj).mono sub_le (fun _ _ _ _ => rfl))
  | own id fz e sz xs =>
    obtain rfl : xs = ys := by simpa [rowOf] using h
    obtain ⟨rfl, hk⟩ := hx.own_inv
    rcases hk.2.2.2.cases with ⟨h6, h5⟩ | ⟨g, off, cap, cur, Fs, h5, hat⟩
    · exact nil_case (fun _ => rfl) h6 h5
    · by_cases hne : xs = []
      · subst hne
        exact nil_case (A := some ⟨g, off, none⟩) (fun e => by simp at e) rfl h5
      · obtain ⟨y, hy⟩ := List.exists_mem_of_ne_nil xs hne
        obtain rfl : sz = size := by rw [← hat.wide y hy, hsz y hy]
        have hfl := hat.flatLen
        have hget : ∀ j, j < xs.length * sz → ((List.range (xs.length * sz)).map fun j => cur.getD (off + j) undef).getD j undef = cur.getD (off + j) undef := by
          intro j hj
          simp [List.getD_eq_getElem?_getD, hj]
        have base : ∀ Fx : Nat → Nat → Prop, (∀ j b, Fx j b → G.under (spent tree (.own id fz e sz xs)) b) → (∀ i j b, Fx i b → Fx j b → i = j) → (∀ j (hj : j < (flat xs).length), TR w G.S (Fx j) (flat xs)[j] (cur.getD (off + j) undef)) →
            ∃ (A : Option Addr) (c : Nat) (news : List Value) (Fx : Nat → Nat → Prop), G.ρ id = .slice A xs.length c ∧ (A = none → xs.length = 0) ∧ (A = none → c = 0) ∧ news.length = xs.length * sz ∧ (∀ ad, A = some ad → ∀ j u, news[j]? = some u → w.cell? (ad.add j) = some u) ∧
              (∀ u ∈ news, u.oneCell' = true) ∧ (∀ y ∈ flat xs, y.isCell = true) ∧ (∀ j b, Fx j b → G.under (spent tree (.own id fz e sz xs)) b) ∧ (∀ i j b, Fx i b → Fx j b → i = j) ∧ ∀ j (hj : j < (flat xs).length), TR w G.S (Fx j) (flat xs)[j] (news.getD j undef) := by
          intro Fx h1 h2 h3
          refine ⟨some ⟨g, off, none⟩, cap, (List.range (xs.length * sz)).map fun j => cur.getD (off + j) undef, Fx, h5, by simp, by simp, by simp, fun ad' e j u hj => ?_, fun u hu => ?_, hat.cell, h1, h2, fun j hj => ?_⟩
          · obtain rfl : (⟨g, off, none⟩ : Addr) = ad' := by simpa using e
            simp only [List.getElem?_map, Option.map_eq_some_iff] at hj
            obtain ⟨k, hk, rfl⟩ := hj
            obtain ⟨h1, h2⟩ := List.getElem?_eq_some_iff.1 hk
            simp at h1 h2
            subst h2
            rw [add_eq rfl]
            exact hat.cellAt h1
          · obtain ⟨k, hk, rfl⟩ := List.mem_map.1 hu
            have hk' : k < (flat xs).length := by rw [hfl]; simpa using hk
            exact (hat.rel k hk').one (hat.cell _ (List.getElem_mem _))
          · rw [hget j (by rw [← hfl]; exact hj)]
            exact h3 j hj
        cases tree with
        | true => exact base Fs (fun j b hb => ⟨id, by simp [spent], (hat.sub j b hb).1, fun e => (hat.sub j b hb).2 (by rw [h5] at e; simpa [Value.ownBlock] using e.symm)⟩) hat.dis hat.rel
        | false =>
          have hp' : plains xs = true := by simpa using hp
          refine base (fun _ _ => False) (fun _ _ h => h.elim) (fun _ _ _ h => h.elim) (fun j hj => .ro _ ((hat.rel j hj).toRO ?_))
          intro e' sz' zs he
          have hm : (flat xs)[j] ∈ flat xs := List.getElem_mem hj
          rw [he] at hm
          obtain ⟨x, hx, hy⟩ := List.mem_flatMap.1 hm
          have := List.all_eq_true.1 (List.all_eq_true.1 hp' x hx) _ hy
          simp at this
  | _ => simp [rowOf] at h
theorem zeroOK_some {te : TI} (h : zeroOK te = true) : ∃ z, te.zero = some z ∧ z.cells.size = te.size := by
  unfold zeroOK at h
  split at h
  · rename_i z hz; exact ⟨z, hz, of_decide_eq_true h⟩
  · simp at h
theorem spent_al {tree : Bool} {x : AV} {v : Value} (h : RV w G x v) : ∀ i ∈ spent tree x, G.al i := by
  intro i hi
  cases x with
  | own id fz e sz xs =>
    obtain ⟨_, hk⟩ := h.own_inv
    simp only [spent] at hi
    split at hi
    · obtain rfl : i = id := by simpa using hi
      exact hk.1
    · simp at hi
  | _ => simp [spent] at hi
theorem evAppend_ok [Kept] {t u : Nat} {s x : Operand} {as : Array Operand} {ts : Array TypeId} (h : Rel st a w G X F) (hX : ∀ b, w.heap.size ≤ b → X b) (hF : F nid)
    (hop : o.op = .call { callee := .builtin .append, args := as, argTypes := ts }) (has : as.toList = [s, x]) (hts : ts.toList = [t, u])
    (he : evAppend P t u (st.val s) (st.val x) nid o.dst st = some st') : Done false P o a w G X (fun i => F i ∧ i ≠ nid) st' := by
  have hi := h.inv
  unfold evAppend at he
  split at he
  · rename_i ht
    obtain ⟨hst, rfl⟩ := ht
    obtain ⟨ti, hti, he⟩ := Option.bind_eq_some_iff.1 he
    obtain ⟨te, hte, he⟩ := Option.bind_eq_some_iff.1 he
    obtain ⟨ys, hys, he⟩ := Option.bind_eq_some_iff.1 he
    have hu := tagOf_slice (of_decide_eq_true hst) hti
    split at he
    · rename_i hc
      obtain ⟨hc1, hc2, hc3, hc4⟩ := hc
      obtain ⟨z, hz, hzs0⟩ := zeroOK_some hc3
      have hsz : ∀ y ∈ ys, y.cells.length = te.size := fun y hy => by simpa using List.all_eq_true.1 hc1 y hy
      have hspal := spent_al (tree := st.tree) (h.sees.val x)
      obtain ⟨A, c, news, Fx, hv, hA, hA0, hnl, hncell, hnone, hncells, hFx, hFxd, hnr⟩ := rowOf_ok (tree := st.tree) (h.sees.val x) hys hsz hc4
      obtain ⟨ie, de, hie, hde, rfl⟩ := tiOf_some hte
      simp only at hz hc2 hsz hnl he
      obtain rfl : as = #[s, x] := by cases as; simpa using has
      obtain rfl : ts = #[u, u] := by cases ts; simpa using hts
      have hrun : ∀ {v' w'}, (Builtin.append_ #[u, u] o.type #[a.eval s, a.eval x]).run P w = .ok v' w' → (execOp a.eval o).run P w = .ok (.value v') w' := by
        intro v' w' hr
        have hb : execOp a.eval o = (do let v ← Builtin.append_ #[u, u] o.type (#[s, x].map a.eval); pure (Next.value v)) := by
          obtain ⟨dst, op, ty, pos, after, guard⟩ := o
          simp only at hop
          subst hop
          rfl
        rw [hb]
        simp only [List.map_toArray, List.map_cons, List.map_nil, Sem.run_bind, hr, Result.andThen_ok]
        rfl
      have hzs : z.cells.size = ie.size := hzs0
      have hfy : (flat ys).length = ys.length * ie.size := flat_length hsz
      have hSund : ∀ {ids : List Nat}, (∀ i ∈ ids, G.al i) → ∀ fl b o, G.S fl b o → ¬ G.under ids b := by
        rintro ids hal fl b o hs ⟨i, hid, h1, h2⟩
        exact h2 (hi.sRow fl b o i hs (hal i hid) h1).1
      cases hs : st.val s with
      | nils =>
        rw [hs] at he
        simp only at he
        split at he
        · rename_i hb
          have hsv := h.sees.val s
          rw [hs] at hsv
          have e1 := hsv.nils_inv
          obtain ⟨hnil, hnew⟩ := append_none (P := P) (w := w) (t := u) (ty := o.type) (e := ti.elem) (i := ie) (z := z) hu hie hz hzs A ys.length c news hA hA0 hnl hncell (by simp only [maxLen]; omega) (by omega)
          by_cases hy : ys = []
          · subst hy
            have hr : (Builtin.append_ #[u, u] o.type #[a.eval s, a.eval x]).run P w = .ok (.slice none 0 0) w := by rw [e1, hv]; exact hnil rfl
            obtain ⟨hr1, hs1, hx1⟩ := h.newRow (w' := w) (nid := nid) (dead := spent st.tree (st.val x)) (v := .slice none 0 0) (L := 0) (own := fun _ => False) (fz := false) (e := ti.elem) (sz := ie.size) (xs := []) hX hF hspal rfl rfl rfl (Nat.le_refl _) (fun _ _ _ => rfl) (fun _ _ _ _ => rfl)
              (fun i hd b hb => hi.plain i b (hspal i hd) hb) (fun _ h => h.elim) (fun _ _ _ _ h => h.elim) (Nat.zero_le _) (.nil _ _ _)
            exact done_value hs1 hr1 .nils (hrun hr) he
          · obtain ⟨w', cap', cur', hr, hh, hn1, hn2, hn3, hn4, h1, h2, h3, h4, h5, h6⟩ := hnew (by intro e; exact hy (List.eq_nil_of_length_eq_zero e))
            rw [← e1, ← hv] at hr
            have hcell : ∀ fl b o, G.S fl b o → w'.cell? ⟨b, o, none⟩ = w.cell? ⟨b, o, none⟩ := fun fl b o hs => World.cell?_of_block (h6 b (hi.lt fl b o hs))
            have hul : ∀ b, G.under (spent st.tree (st.val x)) b → b < w.heap.size := fun b ⟨i, hid, h1, _⟩ => (hi.row i b (hspal i hid) h1).2.1
            obtain ⟨hr1, hs1, hx1⟩ := h.newRow (w' := w') (nid := nid) (dead := spent st.tree (st.val x)) (v := .slice (some ⟨w.heap.size, 0, none⟩) ys.length cap') (L := 0) (own := fun b => b = w.heap.size ∨ G.under (spent st.tree (st.val x)) b) (fz := false) (e := ti.elem) (sz := ie.size) (xs := ys) hX hF hspal h1 h2 h3 h4
              (fun k hk _ => h6 k hk) hcell (fun i hd b hb => by obtain ⟨cur, e, h7⟩ := hi.plain i b (hspal i hd) hb; exact ⟨cur, e, (h6 b (hi.row i b (hspal i hd) hb).2.1).trans h7⟩)
              (fun g hg => by
                rcases hg with rfl | ⟨i, hid, hg, _⟩
                · exact .inl ⟨Nat.le_refl _, h5, _, _, hh⟩
                · exact .inr ⟨i, hid, hg⟩)
              (fun fl b o hs hb => by
                rcases hb with rfl | hb
                · have := hi.lt fl _ o hs; omega
                · exact absurd hb (hSund hspal fl b o hs)) (Nat.zero_le _)
              (.row _ _ _ _ _ 0 _ cur' Fx (.inl rfl) hh hn1 hn2 (by rw [Nat.zero_add]; exact hn3) hsz hncells (fun j b hb => ⟨.inr (hFx j b hb), fun e => by have := hul b (hFx j b hb); omega⟩) hFxd (fun j hj => by
                rw [Nat.zero_add, hn4 j (by rw [hnl, ← hfy]; exact hj)]
                exact (hnr j hj).mono (fun _ _ _ h => h) hcell (fun b hb => h6 b (hul b (hFx j b hb))) (fun _ h => h)))
            have he' : (st.scrub (spent st.tree (st.val x))).put o.dst (.own nid false ti.elem ie.size ys) = some st' := by
              cases ys with
              | nil => exact absurd rfl hy
              | cons y r => exact he
            exact done_value hs1 hr1 hx1 (hrun hr) he'
        · simp at he
      | own id fz e sz xs =>
        rw [hs] at he
        simp only at he
        split at he
        · rename_i hb
          obtain ⟨rfl, rfl, hb1, hb2, hb3⟩ := hb
          have hsv := h.sees.val s
          rw [hs] at hsv
          obtain ⟨e1, hk⟩ := hsv.own_inv
          have hal := hk.1
          have hdal : ∀ i ∈ id :: spent st.tree (st.val x), G.al i := fun i hi => (List.mem_cons.1 hi).elim (fun e => e ▸ hal) (hspal i)
          have hul : ∀ b, G.under (id :: spent st.tree (st.val x)) b → b < w.heap.size := fun b ⟨i, hid, h1, _⟩ => (hi.row i b (hdal i hid) h1).2.1
          have hFx' : ∀ j b, Fx j b → G.under (id :: spent st.tree (st.val x)) b := fun j b hb => by
            obtain ⟨i, h1, h2⟩ := hFx j b hb
            exact ⟨i, List.mem_cons_of_mem _ h1, h2⟩
          rcases hk.2.2.2.cases with ⟨rfl, h5⟩ | ⟨g, off, cap, cur, Fs, h5, hat⟩
          · -- a row without a block
            obtain ⟨hnil, hnew⟩ := append_none (P := P) (w := w) (t := u) (ty := o.type) (e := ti.elem) (i := ie) (z := z) hu hie hz hzs A ys.length c news hA hA0 hnl hncell (by simp only [maxLen]; omega) (by simp only [List.length_nil, Nat.zero_add] at hb1; omega)
            rw [h5] at e1
            by_cases hy : ys = []
            · subst hy
              have hr : (Builtin.append_ #[u, u] o.type #[a.eval s, a.eval x]).run P w = .ok (.slice none 0 0) w := by rw [e1, hv]; exact hnil rfl
              obtain ⟨hr1, hs1, hx1⟩ := h.newRow (w' := w) (nid := nid) (dead := id :: spent st.tree (st.val x)) (v := .slice none 0 0) (L := 0) (own := fun _ => False) (fz := fz) (e := ti.elem) (sz := ie.size) (xs := [] ++ []) hX hF hdal rfl rfl rfl (Nat.le_refl _) (fun _ _ _ => rfl) (fun _ _ _ _ => rfl)
                (fun i hd b hb => hi.plain i b (hdal i hd) hb) (fun _ h => h.elim) (fun _ _ _ _ h => h.elim) (Nat.zero_le _) (.nil _ _ _)
              exact done_value hs1 hr1 hx1 (hrun hr) he
            · obtain ⟨w', cap', cur', hr, hh, hn1, hn2, hn3, hn4, h1, h2, h3, h4, h7, h6⟩ := hnew (by intro e; exact hy (List.eq_nil_of_length_eq_zero e))
              rw [← e1, ← hv] at hr
              have hcell : ∀ fl b o, G.S fl b o → w'.cell? ⟨b, o, none⟩ = w.cell? ⟨b, o, none⟩ := fun fl b o hs => World.cell?_of_block (h6 b (hi.lt fl b o hs))
              obtain ⟨hr1, hs1, hx1⟩ := h.newRow (w' := w') (nid := nid) (dead := id :: spent st.tree (st.val x)) (v := .slice (some ⟨w.heap.size, 0, none⟩) ys.length cap') (L := 0) (own := fun b => b = w.heap.size ∨ G.under (id :: spent st.tree (st.val x)) b) (fz := fz) (e := ti.elem) (sz := ie.size) (xs := [] ++ ys) hX hF hdal h1 h2 h3 h4
                (fun k hk _ => h6 k hk) hcell (fun i hd b hb => by obtain ⟨cur, e, h7⟩ := hi.plain i b (hdal i hd) hb; exact ⟨cur, e, (h6 b (hi.row i b (hdal i hd) hb).2.1).trans h7⟩)
                (fun g hg => by
                  rcases hg with rfl | ⟨i, hid, hg, _⟩
                  · exact .inl ⟨Nat.le_refl _, h7, _, _, hh⟩
                  · exact .inr ⟨i, hid, hg⟩)
                (fun fl b o hs hb => by
                  rcases hb with rfl | hb
                  · have := hi.lt fl _ o hs; omega
                  · exact absurd hb (hSund hdal fl b o hs)) (Nat.zero_le _)
                (.row _ _ _ _ _ 0 _ cur' Fx (.inl rfl) hh hn1 hn2 (by rw [Nat.zero_add]; exact hn3) hsz hncells (fun j b hb => ⟨.inr (hFx' j b hb), fun e => by have := hul b (hFx' j b hb); omega⟩) hFxd (fun j hj => by
                  rw [Nat.zero_add, hn4 j (by rw [hnl, ← hfy]; exact hj)]
                  exact (hnr j hj).mono (fun _ _ _ h => h) hcell (fun b hb => h6 b (hul b (hFx' j b hb))) (fun _ h => h)))
              exact done_value hs1 hr1 hx1 (hrun hr) he
          · have hgb : (G.ρ id).ownBlock = some g := by rw [h5]; rfl
            obtain ⟨w', g', off', cap', cur', hr', hh, hn1, hn2, hn3, hn4, hn5, h1, h2, h3, h4, h6, h7, h8, h9⟩ := append_any (P := P) (w := w) (t := u) (ty := o.type) (e := ti.elem) (i := ie) (z := z) hu hie hz hzs hc2 hat.heap hat.le hat.max hat.size A ys.length c news hA hA0 hnl hncell hnone (by simp only [maxLen]; omega) (by omega)
            rw [h5] at e1
            rw [← e1, ← hv] at hr'
            have hlim' : G.lim id ≤ off + xs.length * ie.size := by
              have := hk.limEnd
              rw [hk.ends, h5] at this
              exact this
            have hcell : ∀ fl b o, G.S fl b o → w'.cell? ⟨b, o, none⟩ = w.cell? ⟨b, o, none⟩ := by
              intro fl b o hs
              by_cases hb : b = g
              · subst hb
                exact h8.2 o (Nat.lt_of_lt_of_le (hi.sRow fl b o id hs hal hat.own).2 hlim')
              · exact World.cell?_of_block (h7 b (hi.lt fl b o hs) hb)
            have hfx := hat.flatLen
            -- what lies under the rows stays where it is
            have hund : ∀ b, G.under (id :: spent st.tree (st.val x)) b → b ≠ g ∧ w'.heap[b]? = w.heap[b]? := by
              rintro b ⟨i, hid, ho, hne⟩
              have hbg : b ≠ g := by
                rintro rfl
                by_cases e : i = id
                · subst e; exact hne hgb
                · exact hi.rows i id b (hdal i hid) hal e ho hat.own
              exact ⟨hbg, h7 b (hi.row i b (hdal i hid) ho).2.1 hbg⟩
            have hunder : ∀ j b, Fs j b → G.under (id :: spent st.tree (st.val x)) b := fun j b hb => ⟨id, by simp, (hat.sub j b hb).1, fun e => (hat.sub j b hb).2 (by rw [hgb] at e; exact (Option.some.inj e).symm)⟩
            have hg' : ∀ b, G.under (id :: spent st.tree (st.val x)) b → b ≠ g' := by
              intro b hb e
              rcases h9 with ⟨rfl, _⟩ | rfl
              · exact (hund b hb).1 e
              · have := hul b hb; omega
            obtain ⟨L, hL1, hL2⟩ : ∃ L, (∀ fl o, G.S fl g' o → o < L) ∧ L ≤ (if fz then off' + (xs ++ ys).length * ie.size else 0) := by
              rcases h9 with ⟨rfl, rfl⟩ | rfl
              · refine ⟨G.lim id, fun fl o hs => (hi.sRow fl _ o id hs hal hat.own).2, ?_⟩
                have := hk.2.2.1
                rw [h5] at this
                split at this
                · rename_i hfz; rw [if_pos hfz, List.length_append, Nat.add_mul]; simp only [rowOff] at this; omega
                · rename_i hfz; rw [if_neg hfz]; exact this
              · exact ⟨0, fun fl o hs => by have := hi.lt fl _ o hs; omega, Nat.zero_le _⟩
            have hnm : xs.length * ie.size = (flat xs).length := hfx.symm
            obtain ⟨hr1, hs1, hx1⟩ := h.newRow (w' := w') (nid := nid) (dead := id :: spent st.tree (st.val x)) (v := .slice (some ⟨g', off', none⟩) (xs.length + ys.length) cap') (L := L) (own := fun b => b = g' ∨ G.under (id :: spent st.tree (st.val x)) b) (fz := fz) (e := ti.elem) (sz := ie.size) (xs := xs ++ ys) hX hF hdal h1 h2 h3 h4
              (fun k hk hd => h7 k hk (fun e => hd id (by simp) (e ▸ hat.own))) hcell
              (fun i hd b hb => by
                by_cases e : b = g
                · subst e; obtain ⟨cur, hc⟩ := h8.1; exact ⟨cur, _, hc⟩
                · obtain ⟨cur, e', h10⟩ := hi.plain i b (hdal i hd) hb
                  exact ⟨cur, e', (h7 b (hi.row i b (hdal i hd) hb).2.1 e).trans h10⟩)
              (fun b hb => by
                rcases hb with rfl | ⟨i, hid, hb, _⟩
                · rcases h9 with ⟨rfl, _⟩ | rfl
                  · exact .inr ⟨id, by simp, hat.own⟩
                  · exact .inl ⟨Nat.le_refl _, h6, _, _, hh⟩
                · exact .inr ⟨i, hid, hb⟩)
              (fun fl b o hs hb => by
                rcases hb with rfl | hb
                · exact ⟨rfl, hL1 fl o hs⟩
                · exact absurd hb (hSund hdal fl b o hs))
              hL2
              (by
                rw [← List.length_append] at hn1 ⊢
                refine .row _ _ _ _ g' off' cap' cur' (fun j b => if j < (flat xs).length then Fs j b else Fx (j - (flat xs).length) b) (.inl rfl) hh hn1 hn2 hn3 (fun x hx => (List.mem_append.1 hx).elim (hat.wide x) (hsz x))
                  (fun y hy => by rw [flat_append] at hy; exact (List.mem_append.1 hy).elim (hat.cell y) (hncells y)) (fun j b hb => ?_) (fun i j b hb hb' => ?_) (fun j hj => ?_)
                · split at hb
                  · exact ⟨.inr (hunder j b hb), hg' b (hunder j b hb)⟩
                  · exact ⟨.inr (hFx' _ b hb), hg' b (hFx' _ b hb)⟩
                · have hcross : ∀ {p q}, Fs p b → Fx q b → False := by
                    intro p q h1 h2
                    obtain ⟨d, hd, h3, _⟩ := hFx q b h2
                    exact hi.rows d id b (hspal d hd) hal (fun e => hb3 (e ▸ hd)) h3 (hat.sub p b h1).1
                  split at hb <;> split at hb'
                  · exact hat.dis _ _ b hb hb'
                  · exact (hcross hb hb').elim
                  · exact (hcross hb' hb).elim
                  · have := hFxd _ _ b hb hb'; omega
                · simp only [flat_append]
                  by_cases hjl : j < (flat xs).length
                  · simp only [if_pos hjl]
                    rw [List.getElem_append_left hjl, hn4 j (by rw [hnm]; exact hjl)]
                    exact (hat.rel j hjl).mono (fun _ _ _ h => h) hcell (fun b hb => (hund b (hunder j b hb)).2) (fun _ h => h)
                  · have hj2 : j - (flat xs).length < (flat ys).length := by
                      rw [flat_append, List.length_append] at hj; omega
                    simp only [if_neg hjl]
                    rw [List.getElem_append_right (by omega)]
                    have e2 := hn5 (j - (flat xs).length) (by rw [hnl, ← hfy]; exact hj2)
                    have e3 : off' + (xs.length * ie.size + (j - (flat xs).length)) = off' + j := by rw [hnm]; omega
                    rw [e3] at e2
                    rw [e2]
                    exact (hnr _ hj2).mono (fun _ _ _ h => h) hcell (fun b hb => (hund b (hFx' _ b hb)).2) (fun _ h => h))
            exact done_value hs1 hr1 hx1 (hrun hr') he
        · simp at he
      | _ => simp [hs] at he
    · simp at he
  · simp at he
end
end Go.Proofs.Ytggkeechdakccaa.Flat
/-
Row literals, make, elements written.
-/
namespace Go.Proofs.Ytggkeechdakccaa.Flat
section
variable {P : Program} {st st' : St} {a : Act} {w : World} {G : Gh} {X F : Nat → Prop} {nid : Nat} {o : Oper}
theorem run_make_row (t e : TypeId) (i : TypeInfo) (z : Value) (ht : P.underlying t = some (.slice e)) (hi : P.info? e = some i) (hz : i.zero = some z) (kl kc : IntKind) (n : Nat) (hb : i.bytes * n ≤ 281474976710656) (h63 : n ≤ maxLen) (w : World) :
    (Instr.makeSlice t (.int kl (n : Int)) (.int kc (n : Int))).run P w = .ok (.slice (some ⟨w.heap.size, 0, none⟩) n n) (w.alloc (.cells (madeCells z.cells (n * i.size)) e)) := by
  have h63' : (n : Int) ≤ 9223372036854775807 := by
    have h := h63
    simp [maxLen] at h
    omega
  have hb' : (i.bytes : Int) * (n : Int) ≤ 281474976710656 := by
    have h : ((i.bytes * n : Nat) : Int) ≤ 281474976710656 := by omega
    rwa [Int.natCast_mul] at h
  have hr := run_make (P := P) w t e i z ht hi hz kl kc n n (by omega) (Int.le_refl _) hb' h63'
  simpa only [Int.toNat_natCast] using hr
theorem flat_replicate (n : Nat) (x : AV) : ∀ j, j < n * x.cells.length → 0 < x.cells.length → (flat (List.replicate n x))[j]? = x.cells[j % x.cells.length]? := by
  induction n with
  | zero => intro j hj; simp at hj
  | succ n ih =>
    intro j hj h0
    rw [List.replicate_succ, flat_cons]
    by_cases hlt : j < x.cells.length
    · rw [List.getElem?_append_left hlt, Nat.mod_eq_of_lt hlt]
    · rw [Nat.add_mul, Nat.one_mul] at hj
      have e := Nat.mod_eq_sub_mod (show x.cells.length ≤ j by omega)
      rw [List.getElem?_append_right (by omega), ih _ (by omega) h0, e]
theorem ofCell_seal {v : Value} {a : AV} {S : Cells} (h : ofCell v = some a) : RO w S a.shutV v ∧ a.shutV.isCell = true := by
  unfold ofCell at h
  split at h
  · obtain rfl := Option.some.inj h; exact ⟨.int _ _ _, rfl⟩
  · obtain rfl := Option.some.inj h; exact ⟨.bool _ _, rfl⟩
  · obtain rfl := Option.some.inj h; exact ⟨.str _ _, rfl⟩
  · obtain rfl := Option.some.inj h; exact ⟨.slNil _ _ _ _ (fun _ => rfl), rfl⟩
  · simp at h
theorem ofCells_seal {S : Cells} : ∀ {vs : List Value} {cs : List AV}, ofCells vs = some cs → cs.length = vs.length ∧ (∀ y ∈ cs, y.shutV.isCell = true) ∧ ∀ j (h : j < cs.length), RO w S cs[j].shutV (vs.getD j undef)
  | [], cs, h => by
    obtain rfl : [] = cs := by simpa [ofCells] using h
    exact ⟨rfl, by simp, fun j hj => by simp at hj⟩
  | v :: vs, cs, h => by
    simp only [ofCells] at h
    obtain ⟨a, ha, h⟩ := Option.bind_eq_some_iff.1 h
    obtain ⟨r, hr, rfl⟩ := Option.map_eq_some_iff.1 h
    obtain ⟨h1, h2, h3⟩ := ofCells_seal hr
    obtain ⟨h4, h5⟩ := ofCell_seal ha
    refine ⟨by simp [h1], fun y hy => ?_, fun j hj => ?_⟩
    · rcases List.mem_cons.1 hy with rfl | hy
      · exact h5
      · exact h2 y hy
    · cases j with
      | zero => exact h4
      | succ j => simpa using h3 j (by simpa using hj)
theorem zeroElem_ok {te : TI} {x : AV} {S : Cells} (h : zeroElem te = some x) (h0 : 0 < te.size) : ∃ z, te.zero = some z ∧ x.cells.length = te.size ∧ z.cells.size = te.size ∧ (∀ y ∈ x.cells, y.isCell = true) ∧
    ∀ j (h : j < x.cells.length), RO w S x.cells[j] (z.cells.getD j undef) := by
  unfold zeroElem at h
  obtain ⟨z, hz, h⟩ := Option.bind_eq_some_iff.1 h
  obtain ⟨cs, hcs, h⟩ := Option.bind_eq_some_iff.1 h
  obtain ⟨h1, h2, h3⟩ := ofCells_seal (w := w) (S := S) hcs
  have hg : ∀ j, z.cells.toList.getD j undef = z.cells.getD j undef := fun j => by rw [List.getD_eq_getElem?_getD, Array.getElem?_toList, ← Array.getD_eq_getD_getElem?]
  split at h
  · rename_i hl
    have hzs : z.cells.size = te.size := by rw [← hl, h1]; simp
    split at h
    · obtain rfl := Option.some.inj h
      have hc : (AV.shutV (.agg cs)).cells = cs.map AV.shutV := by simp only [AV.shutV, AV.mapO, AV.cells, AV.mapOs_eq]; rfl
      refine ⟨z, hz, by rw [hc]; simpa using hl, hzs, fun y hy => ?_, fun j hj => ?_⟩
      · rw [hc] at hy
        obtain ⟨y0, hy0, rfl⟩ := List.mem_map.1 hy
        exact h2 y0 hy0
      · have hj' : j < cs.length := by rw [hc] at hj; simpa using hj
        have e : (AV.shutV (.agg cs)).cells[j] = cs[j].shutV := by simp [hc]
        rw [e, ← hg]
        exact h3 j hj'
    · split at h
      · rename_i c
        obtain rfl := Option.some.inj h
        have h4 := h2 c (by simp)
        have hc : c.shutV.cells = [c.shutV] := by
          cases hh : c.shutV <;> first | rfl | (rw [hh] at h4; simp [AV.isCell] at h4)
        refine ⟨z, hz, by rw [hc]; simpa using hl, hzs, fun y hy => ?_, fun j hj => ?_⟩
        · rw [hc] at hy; obtain rfl := List.mem_singleton.1 hy; exact h4
        · have hj0 : j = 0 := by rw [hc] at hj; simpa using hj
          subst hj0
          have e : c.shutV.cells[0] = c.shutV := by simp [hc]
          rw [e, ← hg]
          exact h3 0 (by simp)
      · simp at h
  · simp at h
theorem evMakeSlice_ok [Kept] {t : Nat} {l c : Operand} (h : Rel st a w G X F) (hX : ∀ b, w.heap.size ≤ b → X b) (hF : F nid) (hop : o.op = .makeSlice t l c) (he : evMakeSlice P t (st.val l) (st.val c) nid o.dst st = some st') :
    Done false P o a w G X (fun i => F i ∧ i ≠ nid) st' := by
  unfold evMakeSlice at he
  split at he
  · rename_i hst
    obtain ⟨ti, hti, he⟩ := Option.bind_eq_some_iff.1 he
    obtain ⟨te, hte, he⟩ := Option.bind_eq_some_iff.1 he
    obtain ⟨x, hx, he⟩ := Option.bind_eq_some_iff.1 he
    have hu := tagOf_slice (of_decide_eq_true hst) hti
    have h1 := h.sees.val l
    have h2 := h.sees.val c
    cases hl : st.val l with
    | int kl n =>
      cases hc : st.val c with
      | int kc m =>
        rw [hl, hc] at he
        rw [hl] at h1
        rw [hc] at h2
        simp only at he
        split at he
        · rename_i hcond
          obtain ⟨rfl, hn0, hb, h63, hsz0⟩ := hcond
          obtain ⟨n, rfl⟩ := Int.eq_ofNat_of_zero_le hn0
          simp only [Int.toNat_natCast] at hb h63 he
          obtain ⟨z, hz, hxl, hzs, hxc, hxr⟩ := zeroElem_ok (w := w) (S := G.S) hx hsz0
          obtain ⟨ie, de, hie, hde, rfl⟩ := tiOf_some hte
          simp only at hz hb hsz0 hxl hzs he
          have hm : n ≤ maxLen := by simp only [maxLen]; omega
          have hrun := run_make_row t ti.elem ie z hu hie hz kl kc n hb hm w
          have hsz : ∀ y ∈ List.replicate n x, y.cells.length = ie.size := fun y hy => by rw [List.eq_of_mem_replicate hy]; exact hxl
          have hfl : (flat (List.replicate n x)).length = n * ie.size := by rw [flat_length hsz]; simp
          obtain ⟨hr1, hs1, hx1⟩ := h.newRow (w' := w.alloc (.cells (madeCells z.cells (n * ie.size)) ti.elem)) (nid := nid) (dead := []) (v := .slice (some ⟨w.heap.size, 0, none⟩) n n) (L := 0) (own := fun b => b = w.heap.size) (fz := false) (e := ti.elem) (sz := ie.size) (xs := List.replicate n x) hX hF (by simp) rfl rfl rfl (by simp only [World.alloc, Array.size_push]; omega)
            (fun k hk _ => heap_alloc_eq hk) (fun fl b o hs => cell_alloc (h.inv.lt fl b o hs)) (by simp) (fun g hg => by
              subst hg
              exact .inl ⟨Nat.le_refl _, by simp only [World.alloc, Array.size_push]; omega, _, _, heap_alloc_new w _⟩) (fun fl b o hs hb => by
              subst hb
              have := h.inv.lt fl _ o hs; omega) (Nat.zero_le _) (by
              have hlen : n = (List.replicate n x).length := by simp
              have := TR.row (w := w.alloc (.cells (madeCells z.cells (n * ie.size)) ti.elem)) (S := G.S) (fun b => b = w.heap.size) ti.elem ie.size (List.replicate n x) w.heap.size 0 n (madeCells z.cells (n * ie.size)) (fun _ _ => False) rfl (heap_alloc_new w _) (by simp) hm (by rw [size_madeCells]; omega) hsz (fun y hy => by
                simp only [flat, List.mem_flatMap] at hy
                obtain ⟨x', hx', hy⟩ := hy
                rw [List.eq_of_mem_replicate hx'] at hy
                exact hxc y hy) (fun _ _ h => h.elim) (fun _ _ _ h => h.elim) (fun j hj => by
                have hj' : j < n * ie.size := by rw [← hfl]; exact hj
                have hmod : j % ie.size < ie.size := Nat.mod_lt _ hsz0
                have e1 := flat_replicate n x j (by rw [hxl]; exact hj') (by omega)
                rw [List.getElem?_eq_getElem hj, hxl, List.getElem?_eq_getElem (by omega)] at e1
                rw [Option.some.inj e1, Nat.zero_add]
                have e2 : (madeCells z.cells (n * ie.size)).getD j undef = z.cells.getD (j % ie.size) undef := by
                  rw [Array.getD_eq_getD_getElem?]
                  unfold madeCells
                  rw [Array.getElem?_map, Array.getElem?_range, if_pos hj']
                  simp only [Option.map_some, Option.getD_some, hzs]
                  rw [getElem!_pos z.cells _ (by omega)]
                  have := getD_some (xs := z.cells) (i := j % ie.size) (by omega)
                  rw [Array.getElem?_eq_getElem (by omega)] at this
                  exact Option.some.inj this
                rw [e2]
                exact .ro _ ((hxr _ _).mono (fun _ _ _ h => h) (fun fl b o hs => cell_alloc (h.inv.lt fl b o hs))))
              rwa [List.length_replicate] at this)
          have he2 : (st.scrub []).put o.dst (.own nid false ti.elem ie.size (List.replicate n x)) = some st' := he
          refine done_value hs1 hr1 hx1 ?_ he2
          simp only [execOp, hop, h1.int_inv, h2.int_inv, Sem.run_bind, hrun, Result.andThen_ok]
          rfl
        · simp at he
      | _ => simp [hl, hc] at he
    | _ => simp [hl] at he
  · simp at he
end
end Go.Proofs.Ytggkeechdakccaa.Flat
/-
Row literals, and elements written.
-/
namespace Go.Proofs.Ytggkeechdakccaa.Flat
def Rs (R : AV → Value → Prop) (cs : List AV) (vs : Array Value) : Prop := vs.size = cs.length ∧ ∀ j (h : j < cs.length), R cs[j] (vs.getD j undef)
theorem Rs.put {R : AV → Value → Prop} {cs : List AV} {vs : Array Value} {xs : List AV} {us : Array Value} {off : Nat} (h : Rs R cs vs) (hx : Rs R xs us) (hb : off + xs.length ≤ cs.length) :
    Rs R (cs.take off ++ xs ++ cs.drop (off + xs.length)) (us.zipIdx.foldl (fun cs (p : Value × Nat) => cs.setIfInBounds (off + p.2) p.1) vs) := by
  rw [← Array.foldl_toList, Array.toList_zipIdx]
  have hl : off + 0 + us.toList.length ≤ vs.size := by simp [hx.1, h.1]; omega
  refine ⟨?_, fun j hj => ?_⟩
  · rw [put_size, h.1]; simp; omega
  · rw [put_get off _ 0 vs j hl]
    simp only [Nat.add_zero, Array.length_toList, hx.1]
    by_cases h1 : j < off
    · rw [if_neg (by omega), List.getElem_append_left (by simp; omega), List.getElem_append_left (by simp; omega), List.getElem_take]
      exact h.2 _ _
    · by_cases h2 : j < off + xs.length
      · rw [if_pos (by omega), List.getElem_append_left (by simp; omega), List.getElem_append_right (by simp; omega)]
        have := hx.2 (j - off) (by omega)
        rw [Array.getD_eq_getD_getElem?] at this
        rw [List.getD_eq_getElem?_getD, Array.getElem?_toList]
        have e : j - (List.take off cs).length = j - off := by simp; omega
        simp only [e]
        exact this
      · rw [if_neg (by omega), List.getElem_append_right (by simp; omega)]
        have e : j = off + xs.length + (j - (List.take off cs ++ xs).length) := by simp; omega
        have := h.2 j (by simp at hj; omega)
        simp only [List.getElem_drop]
        have e2 : cs[off + xs.length + (j - (List.take off cs ++ xs).length)]'(by simp at hj ⊢; omega) = cs[j]'(by simp at hj; omega) := by congr 1; exact e.symm
        rw [e2]
        exact this
theorem fillR_ok {R : AV → Value → Prop} {place : Nat → Option (Nat × Nat)} : ∀ {parts : List (Nat × AV)} {parts' : List (Nat × Value)} {cs cs' : List AV} {vs : Array Value},
    Rs R cs vs → parts.length = parts'.length → (∀ (k i : Nat) (x : AV) (i' : Nat) (v : Value), parts[k]? = some (i, x) → parts'[k]? = some (i', v) → i = i' ∧ Rs R x.cells v.cells) → fillCells place cs parts = some cs' →
    ∃ vs', Instr.fill place vs parts' = some vs' ∧ Rs R cs' vs'
  | [], parts', cs, cs', vs, h, hl, _, hf => by
    obtain rfl : parts' = [] := by cases parts' <;> simp_all
    obtain rfl : cs = cs' := by simpa [fillCells] using hf
    exact ⟨vs, rfl, h⟩
  | (i, x) :: parts, parts', cs, cs', vs, h, hl, hr, hf => by
    cases parts' with
    | nil => simp at hl
    | cons p parts' =>
      obtain ⟨i', v⟩ := p
      obtain ⟨rfl, hxv⟩ := hr 0 i x i' v rfl rfl
      simp only [fillCells] at hf
      obtain ⟨⟨off, size⟩, hpl, hf⟩ := Option.bind_eq_some_iff.1 hf
      simp only at hf
      split at hf
      · rename_i hc
        obtain ⟨hc1, hc2, hc3⟩ := hc
        have hput := h.put (off := off) hxv (by omega)
        rw [hc1] at hput
        obtain ⟨vs', h1, h2⟩ := fillR_ok hput (by simpa using hl) (fun k i x i' v h1 h2 => hr (k + 1) i x i' v (by simpa using h1) (by simpa using h2)) hf
        refine ⟨vs', ?_, h2⟩
        rw [Instr.fill.eq_2, hpl]
        simp only
        rw [if_neg (by simp [hxv.1, hc1, h.1]; omega)]
        exact h1
      · simp at hf
theorem fillCells_seq {size : Nat} (h0 : size ≠ 0) : ∀ (xs : List AV) (k : Nat) (pre : List AV), pre.length = k * size → (∀ x ∈ xs, x.cells.length = size) →
    fillCells (fun i => some (i * size, size)) (pre ++ List.replicate (xs.length * size) .undef) (numbered k xs) = some (pre ++ flat xs)
  | [], k, pre, _, _ => by simp [numbered, fillCells, flat]
  | x :: xs, k, pre, hp, hs => by
    have hx := hs x (by simp)
    have e : (xs.length + 1) * size = size + xs.length * size := by rw [Nat.add_mul]; omega
    simp only [numbered, fillCells, Option.bind_some, List.length_cons]
    rw [if_pos ⟨hx, h0, by simp [hp]; rw [e]; omega⟩]
    have e1 : (pre ++ List.replicate ((xs.length + 1) * size) AV.undef).take (k * size) = pre := by rw [← hp]; exact List.take_left
    have e2 : (pre ++ List.replicate ((xs.length + 1) * size) AV.undef).drop (k * size + size) = List.replicate (xs.length * size) AV.undef := by
      rw [← hp, ← List.drop_drop, List.drop_left, e, List.drop_replicate]
      congr 1
      omega
    rw [e1, e2, fillCells_seq h0 xs (k + 1) (pre ++ x.cells) (by simp [hp, hx, Nat.add_mul]) (fun y hy => hs y (by simp [hy])), flat_cons, List.append_assoc]
def laidC (tree : Bool) (y : AV) : AV := if tree then y.treeC else y.shutV
theorem laid_cells (tree : Bool) (x : AV) : (x.laid tree).cells = x.cells.map (laidC tree) := by
  cases tree with
  | true =>
    have e : laidC true = AV.treeC := by funext y; rfl
    rw [e]
    cases x with
    | agg cs => rfl
    | own id fz e sz xs => cases fz <;> rfl
    | _ => rfl
  | false =>
    have e : laidC false = AV.shutV := by funext y; rfl
    rw [e]
    cases x with
    | agg cs => simp only [AV.laid, AV.shutV, AV.mapO, AV.cells, AV.mapOs_eq, Bool.false_eq_true, if_false]; rfl
    | eptr d id fz e0 sz xs i k =>
      cases d with
      | false => rfl
      | true =>
        have e : (AV.laid false (.eptr true id fz e0 sz xs i k)) = (match AV.inner xs i k with | some r => .sl true (AV.shuts r.2.2) | none => .undef) := rfl
        have e2 : (AV.eptr true id fz e0 sz xs i k).cells.map AV.shutV = [match AV.inner xs i k with | some r => .sl true (AV.shuts r.2.2) | none => .undef] := rfl
        rw [e, e2]
        cases AV.inner xs i k <;> rfl
    | _ => rfl
theorem flat_laid (tree : Bool) (src : List AV) : flat (src.map (AV.laid tree)) = (flat src).map (laidC tree) := by
  induction src with
  | nil => rfl
  | cons x r ih => rw [List.map_cons, flat_cons, flat_cons, laid_cells, ih, List.map_append]
theorem elemsOf_ok {tree agg : Bool} {size : Nat} : ∀ {parts : List (Nat × AV)} {k : Nat} {xs : List AV}, elemsOf tree agg size k parts = some xs →
    parts = numbered k (parts.map (·.2)) ∧ xs = (parts.map (·.2)).map (AV.laid tree) ∧ (∀ p ∈ parts, p.2.cells.length = size ∧ ∀ y ∈ p.2.cells, (laidC tree y).isCell = true)
  | [], k, xs, h => by
    obtain rfl : [] = xs := by simpa [elemsOf] using h
    exact ⟨rfl, rfl, by simp⟩
  | (i, x) :: r, k, xs, h => by
    simp only [elemsOf] at h
    split at h
    · rename_i hc
      obtain ⟨rfl, h1, h2, _⟩ := hc
      obtain ⟨ys, hys, rfl⟩ := Option.map_eq_some_iff.1 h
      obtain ⟨h3, h4, h5⟩ := elemsOf_ok hys
      refine ⟨?_, by simp [h4], fun p hp => ?_⟩
      · simp only [List.map_cons, numbered]
        rw [← h3]
      · rcases List.mem_cons.1 hp with rfl | hp
        · rw [laid_cells] at h1 h2
          exact ⟨by simpa using h1, fun y hy => List.all_eq_true.1 h2 _ (List.mem_map.2 ⟨y, hy, rfl⟩)⟩
        · exact h5 p hp
    · simp at h
theorem rows_cells (x : AV) : x.rows = AV.rowss x.cells := by cases x <;> simp [AV.rows, AV.cells, AV.rowss]
theorem rowss_append (xs ys : List AV) : AV.rowss (xs ++ ys) = AV.rowss xs ++ AV.rowss ys := by
  induction xs with
  | nil => rfl
  | cons x xs ih => simp only [List.cons_append, AV.rowss, ih, List.append_assoc]
theorem rowss_flat (xs : List AV) : xs.flatMap AV.rows = AV.rowss (flat xs) := by
  induction xs with
  | nil => rfl
  | cons x xs ih => rw [List.flatMap_cons, flat_cons, rowss_append, ih, rows_cells]
theorem rowss_mem {cs : List AV} {j : Nat} (h : j < cs.length) {id : Nat} (hid : id ∈ cs[j].rows) : id ∈ AV.rowss cs := by
  induction cs generalizing j with
  | nil => simp at h
  | cons c cs ih =>
    simp only [AV.rowss, List.mem_append]
    cases j with
    | zero => exact .inl (by simpa using hid)
    | succ j => exact .inr (ih (by simpa using h) (by simpa using hid))
theorem rowss_inv {cs : List AV} {id : Nat} (h : id ∈ AV.rowss cs) : ∃ j, ∃ h : j < cs.length, id ∈ cs[j].rows := by
  induction cs with
  | nil => simp [AV.rowss] at h
  | cons c cs ih =>
    simp only [AV.rowss, List.mem_append] at h
    rcases h with h | h
    · exact ⟨0, by simp, h⟩
    · obtain ⟨j, hj, hm⟩ := ih h
      exact ⟨j + 1, by simpa using hj, by simpa using hm⟩
theorem nodupB_append {xs ys : List Nat} (h : nodupB (xs ++ ys) = true) : nodupB ys = true ∧ ∀ i ∈ xs, i ∉ ys := by
  induction xs with
  | nil => exact ⟨h, by simp⟩
  | cons x xs ih =>
    simp only [List.cons_append, nodupB, Bool.and_eq_true, Bool.not_eq_true', decide_eq_false_iff_not, List.mem_append, not_or] at h
    obtain ⟨h1, h2⟩ := ih h.2
    exact ⟨h1, fun i hi => by
      rcases List.mem_cons.1 hi with rfl | hi
      · exact h.1.2
      · exact h2 i hi⟩
theorem nodup_rowss {cs : List AV} (h : nodupB (AV.rowss cs) = true) {i j : Nat} (hi : i < cs.length) (hj : j < cs.length) {id : Nat} (h1 : id ∈ cs[i].rows) (h2 : id ∈ cs[j].rows) : i = j := by
  induction cs generalizing i j with
  | nil => simp at hi
  | cons c cs ih =>
    simp only [AV.rowss] at h
    obtain ⟨h3, h4⟩ := nodupB_append h
    cases i with
    | zero =>
      cases j with
      | zero => rfl
      | succ j => exact absurd (rowss_mem (by simpa using hj) (by simpa using h2)) (h4 id (by simpa using h1))
    | succ i =>
      cases j with
      | zero => exact absurd (rowss_mem (by simpa using hi) (by simpa using h1)) (h4 id (by simpa using h2))
      | succ j => exact congrArg (· + 1) (ih h3 (i := i) (j := j) (by simpa using hi) (by simpa using hj) (by simpa using h1) (by simpa using h2))
theorem numbered_length {α : Type} (xs : List α) (k : Nat) : (numbered k xs).length = xs.length := by
  induction xs generalizing k with
  | nil => rfl
  | cons x xs ih => simp [numbered, ih]
section
variable {P : Program} {st st' : St} {a : Act} {w : World} {G : Gh} {X F : Nat → Prop} {nid : Nat} {o : Oper}
theorem RO.cells {S : Cells} {x : AV} {v : Value} (h : RO w S x v) (hc : x.cells.all AV.isCell = true) : Rs (RO w S) x.cells v.cells ∧ ∀ u ∈ v.cells.toList, u.oneCell' = true := by
  have key : Rs (RO w S) x.cells v.cells := by
    cases x with
    | agg cs => cases h with | agg _ _ vs hl hr => exact ⟨hl, hr⟩
    | undef => simp [AV.cells, AV.isCell] at hc
    | tup cs => simp [AV.cells, AV.isCell] at hc
    | _ =>
      have h1 := h.one rfl
      have e : v.cells = #[v] := by cases v <;> first | rfl | simp [Value.oneCell'] at h1
      rw [e]
      refine ⟨rfl, fun j hj => ?_⟩
      obtain rfl : j = 0 := by simpa [AV.cells] using hj
      exact h
  refine ⟨key, fun u hu => ?_⟩
  obtain ⟨j, hj, rfl⟩ := List.getElem_of_mem hu
  have hj' : j < x.cells.length := by rw [← key.1]; simpa using hj
  have h4 := (key.2 j hj').one (List.all_eq_true.1 hc _ (List.getElem_mem _))
  have hg := getD_some (xs := v.cells) (i := j) (by simpa using hj)
  rw [Array.getElem_toList]
  rw [Array.getElem?_eq_getElem (by simpa using hj)] at hg
  rw [Option.some.inj hg]
  exact h4
theorem run_buildSlice {t e len : Nat} {i : TypeInfo} {z : Value} {parts : Array (Nat × Value)} {R : Array Value → Prop} (ht : P.underlying t = some (.slice e)) (hi : P.info? e = some i) (hz : i.zero = some z) (hl : len * i.size ≤ 16777216)
    (hf : ∀ vs : Array Value, vs.size = len * i.size → ∃ cells, Instr.fill (fun k => some (k * i.size, i.size)) vs parts.toList = some cells ∧ R cells) (w : World) :
    ∃ cells, R cells ∧ (Instr.buildSlice t len parts).run P w = .ok (.slice (some ⟨w.heap.size, 0, none⟩) len len) (w.alloc (.cells cells e)) := by
  have hl' : ¬ (len * i.size > 2 ^ 24) := by omega
  simp only [Instr.buildSlice, Sem.run_bind, run_und ht, Result.andThen_ok, sizeOf, run_info hi, Sem.run_pure, if_neg hl']
  by_cases h0 : len * i.size = 0
  · rw [if_pos h0]
    simp only [Sem.run_bind, Sem.run_pure, Result.andThen_ok]
    obtain ⟨cells, h1, h2⟩ := hf _ (show ((Array.range (len * i.size)).map (fun x => (#[] : Array Value)[x % (#[] : Array Value).size]!)).size = len * i.size by simp)
    refine ⟨cells, h2, ?_⟩
    rw [h1]
    simp only [Sem.run_bind, run_newRow, Result.andThen_ok, Sem.run_pure]
  · rw [if_neg h0]
    simp only [Sem.run_bind, zeroValue, run_info hi, hz, Sem.run_pure, Result.andThen_ok]
    obtain ⟨cells, h1, h2⟩ := hf _ (show ((Array.range (len * i.size)).map (fun x => z.cells[x % z.cells.size]!)).size = len * i.size by simp)
    refine ⟨cells, h2, ?_⟩
    rw [h1]
    simp only [Sem.run_bind, run_newRow, Result.andThen_ok, Sem.run_pure]
theorem treeC_ok {y : AV} {v : Value} (h : RV w G y v) : TR w G.S (fun b => ∃ id ∈ y.rows, G.own id b) y.treeC v := by
  have hu : TR w G.S (fun b => ∃ id ∈ y.rows, G.own id b) .undef v := .ro _ (.undef _ _)
  cases h with
  | ro h =>
    cases h with
    | int => exact .ro _ (.int _ _ _)
    | bool => exact .ro _ (.bool _ _)
    | str => exact .ro _ (.str _ _)
    | slNil _ _ _ _ h => exact .ro _ (.slNil _ _ _ _ h)
    | sl _ _ _ _ _ _ _ hne hc hsp hsz hcell hS hr => exact .ro _ (.sl _ _ _ _ _ _ _ hne hc hsp hsz hcell hS hr)
    | _ => exact hu
  | nils => exact .ro _ (.slNil _ _ _ _ (fun _ => rfl))
  | own id fz e sz xs hk =>
    cases fz with
    | true => exact hu
    | false => exact hk.2.2.2.mono (fun _ _ _ h => h) (fun _ _ _ _ => rfl) (fun _ _ => rfl) (fun b hb => ⟨id, by simp [AV.rows], hb⟩)
  | _ => exact hu
theorem treeC_lim {y : AV} {v : Value} (h : RV w G y v) (hc : y.treeC.isCell = true) : ∀ id ∈ y.rows, G.al id ∧ G.lim id = 0 := by
  intro id hid
  cases h with
  | ro h => cases h <;> first | (simp [AV.treeC, AV.isCell] at hc; done) | (simp [AV.rows] at hid; done)
  | nils => simp [AV.rows] at hid
  | own id' fz e sz xs hk =>
    obtain rfl : id = id' := by simpa [AV.rows] using hid
    cases fz with
    | true => simp [AV.treeC, AV.isCell] at hc
    | false => exact ⟨hk.1, by have := hk.2.2.1; simpa using this⟩
  | _ => simp [AV.treeC, AV.isCell] at hc
theorem Rel.lay [Kept] (h : Rel st a w G X F) {ss : List AV} {vs : Nat → Value} (hr : ∀ j (h : j < ss.length), RV w G ss[j] (vs j)) (hc : ∀ y ∈ ss, (laidC st.tree y).isCell = true) (hnd : st.tree = false ∨ nodupB (AV.rowss ss) = true) :
    ∃ (G1 : Gh) (dead : List Nat) (Fs : Nat → Nat → Prop) (st1 : St), Rel st1 a w G1 X F ∧ Step false w w G G1 X ∧ st1.scrub dead = st.laid (AV.rowss ss) ∧ (∀ id ∈ dead, G1.al id ∧ G1.lim id = 0 ∧ id ∈ AV.rowss ss) ∧
      (∀ j b, Fs j b → ∃ id ∈ dead, G1.own id b) ∧ (∀ i j b, Fs i b → Fs j b → i = j) ∧ (∀ j (h : j < ss.length), TR w G1.S (Fs j) (laidC st.tree ss[j]) (vs j)) ∧
      (∀ id fz e sz xs, id ∉ AV.rowss ss → RowOK w G id fz e sz xs → RowOK w G1 id fz e sz xs ∧ G1.lim id = G.lim id) ∧ G1.ρ = G.ρ := by
  have hids : ∀ id ∈ AV.rowss ss, ∃ fz e sz xs, RowOK w G id fz e sz xs := by
    intro id hid
    obtain ⟨j, hj, hm⟩ := rowss_inv hid
    exact (hr j hj).rows_al id hm
  cases ht : st.tree with
  | false =>
    obtain ⟨hr0, hs0⟩ := h.freeze hids
    refine ⟨_, [], fun _ _ => False, _, hr0, hs0, by simp [St.laid, ht, St.scrub], by simp, fun _ _ h => h.elim, fun _ _ _ h => h.elim, fun j hj => .ro _ ?_, fun id fz e sz xs hn hk => ⟨hk.unfrozen hn, ?_⟩, rfl⟩
    · have e : laidC false ss[j] = ss[j].shutV := rfl
      rw [e]
      exact (hr j hj).shutV (fun id hid => rowss_mem hj hid)
    · show (if id ∈ AV.rowss ss then rowEnd G id else G.lim id) = G.lim id
      rw [if_neg hn]
  | true =>
    rw [ht] at hc hnd
    have hnd' : nodupB (AV.rowss ss) = true := by simpa using hnd
    have hlim : ∀ id ∈ AV.rowss ss, G.al id ∧ G.lim id = 0 := by
      intro id hid
      obtain ⟨j, hj, hm⟩ := rowss_inv hid
      exact treeC_lim (hr j hj) (hc _ (List.getElem_mem hj)) id hm
    refine ⟨G, AV.rowss ss, fun j b => ∃ h : j < ss.length, ∃ id ∈ ss[j].rows, G.own id b, st, h, Step.refl _ _ _ _, by simp [St.laid, ht], fun id hid => ⟨(hlim id hid).1, (hlim id hid).2, hid⟩, ?_, ?_, ?_, fun id fz e sz xs hn hk => ⟨hk, rfl⟩, rfl⟩
    · rintro j b ⟨hj, id, hid, hb⟩
      exact ⟨id, rowss_mem hj hid, hb⟩
    · rintro i j b ⟨hi, id, hid, hb⟩ ⟨hj, id', hid', hb'⟩
      have : id = id' := Classical.byContradiction fun hne => h.inv.rows id id' b (hlim id (rowss_mem hi hid)).1 (hlim id' (rowss_mem hj hid')).1 hne hb hb'
      subst this
      exact nodup_rowss hnd' hi hj hid hid'
    · intro j hj
      exact (treeC_ok (hr j hj)).mono (fun _ _ _ h => h) (fun _ _ _ _ => rfl) (fun _ _ => rfl) (fun b hb => ⟨hj, hb⟩)
theorem evBuildSlice_ok [Kept] {t len : Nat} {ps : Array (Nat × Operand)} (h : Rel st a w G X F) (hX : ∀ b, w.heap.size ≤ b → X b) (hF : F nid) (hop : o.op = .buildSlice t len ps)
    (he : evBuildSlice P t len (ps.toList.map fun p => (p.1, st.val p.2)) nid o.dst st = some st') : Done false P o a w G X (fun i => F i ∧ i ≠ nid) st' := by
  unfold evBuildSlice at he
  split at he
  · rename_i hst
    obtain ⟨ti, hti, he⟩ := Option.bind_eq_some_iff.1 he
    obtain ⟨te, hte, he⟩ := Option.bind_eq_some_iff.1 he
    obtain ⟨xs, hxs, he⟩ := Option.bind_eq_some_iff.1 he
    split at he
    · rename_i hc
      obtain ⟨hlen, hcap, hpos, hz, hnd⟩ := hc
      obtain ⟨z, hz, hzs⟩ := zeroOK_some hz
      have hu := tagOf_slice (of_decide_eq_true hst) hti
      obtain ⟨hnum, hxs', hxc⟩ := elemsOf_ok hxs
      obtain ⟨ie, de, hie, hde, rfl⟩ := tiOf_some hte
      simp only at hz hpos hcap hxc he
      generalize hparts : (ps.toList.map fun p => (p.1, st.val p.2)) = parts at hnum hxs' hxc hlen hnd he
      generalize hsrc : parts.map (·.2) = src at hnum hxs'
      have hpl : parts.length = ps.size := by rw [← hparts]; simp
      have hsl : src.length = len := by rw [← hsrc, ← hlen]; simp
      have hsz : ∀ x ∈ src, x.cells.length = ie.size := by
        intro x hx
        rw [← hsrc] at hx
        obtain ⟨p, hp, rfl⟩ := List.mem_map.1 hx
        exact (hxc p hp).1
      have hcell : ∀ y ∈ flat src, (laidC st.tree y).isCell = true := by
        intro y hy
        obtain ⟨x, hx, hy⟩ := List.mem_flatMap.1 hy
        rw [← hsrc] at hx
        obtain ⟨p, hp, rfl⟩ := List.mem_map.1 hx
        exact (hxc p hp).2 y hy
      have hrows : (parts.flatMap fun p => p.2.rows) = AV.rowss (flat src) := by
        rw [← rowss_flat, ← hsrc, List.flatMap_map]
      rw [hrows] at hnd he
      have hfl : (flat src).length = len * ie.size := by rw [flat_length hsz, hsl]
      have hro : ∀ (k i : Nat) (x : AV) (i' : Nat) (v : Value), (numbered 0 src)[k]? = some (i, x) → ((ps.map fun p => (p.1, a.eval p.2)).toList)[k]? = some (i', v) → i = i' ∧ Rs (RV w G) x.cells v.cells := by
        intro k i x i' v h1 h2
        rw [← hnum, ← hparts] at h1
        simp only [List.getElem?_map, Option.map_eq_some_iff, Prod.mk.injEq, Array.getElem?_toList] at h1
        obtain ⟨p, hp, rfl, rfl⟩ := h1
        simp only [Array.toList_map, List.getElem?_map, Option.map_eq_some_iff, Prod.mk.injEq, Array.getElem?_toList] at h2
        obtain ⟨q, hq, rfl, rfl⟩ := h2
        rw [hp] at hq
        obtain rfl := Option.some.inj hq
        refine ⟨rfl, (h.sees.val p.2).cells ?_⟩
        intro e
        have hm : (p.1, st.val p.2) ∈ parts := by rw [← hparts]; exact List.mem_map.2 ⟨p, Array.mem_toList_iff.2 (Array.mem_of_getElem? hp), rfl⟩
        have := (hxc _ hm).2 .undef (by simp [e, AV.cells])
        cases hst : st.tree <;> rw [hst] at this <;> simp [laidC, AV.treeC, AV.shutV, AV.mapO, AV.isCell] at this
      have hseq := fillCells_seq (size := ie.size) (by omega) src 0 [] (by simp) hsz
      simp only [List.nil_append] at hseq
      have hpl2 : (numbered 0 src).length = ((ps.map fun p => (p.1, a.eval p.2)).toList).length := by rw [numbered_length, ← hsrc]; simp [hpl]
      have hfill : ∀ vs : Array Value, vs.size = len * ie.size → ∃ vs', Instr.fill (fun k => some (k * ie.size, ie.size)) vs (ps.map fun p => (p.1, a.eval p.2)).toList = some vs' ∧ Rs (RV w G) (flat src) vs' := by
        intro vs hvs
        exact fillR_ok (R := RV w G) (cs := List.replicate (src.length * ie.size) .undef) ⟨by simp [hvs, hsl], fun j hj => by simp only [List.getElem_replicate]; exact rvUndef _⟩ hpl2 hro hseq
      obtain ⟨cells, hR, hrun⟩ := run_buildSlice (t := t) hu hie hz hcap hfill w
      have hm : len ≤ maxLen := by
        have : len * 1 ≤ len * ie.size := Nat.mul_le_mul_left _ hpos
        simp only [maxLen]
        omega
      obtain ⟨G1, dead, Fs, st1, hr1, hs1, hscr, hdead, hFs, hFd, hTR, _, _⟩ := h.lay (vs := fun j => cells.getD j undef) hR.2 hcell hnd
      have hflx : flat xs = (flat src).map (laidC st.tree) := by
        rw [hxs']; exact flat_laid _ _
      have hxl : xs.length = len := by rw [hxs', List.length_map, hsl]
      have hdl : ∀ id ∈ dead, ∀ b, G1.own id b → b < w.heap.size := fun id hid b hb => (hr1.inv.row id b (hdead id hid).1 hb).2.1
      obtain ⟨hr2, hs2, hx2⟩ := hr1.newRow (w' := w.alloc (.cells cells ti.elem)) (nid := nid) (dead := dead) (v := .slice (some ⟨w.heap.size, 0, none⟩) len len) (L := 0) (own := fun b => b = w.heap.size ∨ ∃ id ∈ dead, G1.own id b) (fz := false) (e := ti.elem) (sz := ie.size) (xs := xs) hX hF (fun i hi => (hdead i hi).1) rfl rfl rfl (by simp only [World.alloc, Array.size_push]; omega)
        (fun k hk _ => heap_alloc_eq hk) (fun fl b o hs => cell_alloc (hr1.inv.lt fl b o hs)) (fun i hd b hb => by obtain ⟨cur, e, h1⟩ := hr1.inv.plain i b (hdead i hd).1 hb; exact ⟨cur, e, (heap_alloc_eq (hdl i hd b hb)).trans h1⟩)
        (fun g hg => by
          rcases hg with rfl | hg
          · exact .inl ⟨Nat.le_refl _, by simp only [World.alloc, Array.size_push]; omega, _, _, heap_alloc_new w _⟩
          · exact .inr hg)
        (fun fl b o hs hb => by
          rcases hb with rfl | ⟨id, hid, hb⟩
          · have := hr1.inv.lt fl _ o hs; omega
          · have := (hr1.inv.sRow fl b o id hs (hdead id hid).1 hb).2
            rw [(hdead id hid).2.1] at this
            omega) (Nat.zero_le _) (by
          rw [← hxl]
          refine .row _ _ _ _ _ 0 _ cells Fs (.inl rfl) (heap_alloc_new w _) (Nat.le_refl _) (by rw [hxl]; exact hm) (by rw [hxl, hR.1, hfl]; omega) (fun x hx => ?_) (fun y hy => ?_) (fun j b hb => ?_) hFd (fun j hj => ?_)
          · rw [hxs'] at hx
            obtain ⟨x0, hx0, rfl⟩ := List.mem_map.1 hx
            rw [laid_cells, List.length_map]
            exact hsz x0 hx0
          · rw [hflx] at hy
            obtain ⟨y0, hy0, rfl⟩ := List.mem_map.1 hy
            exact hcell y0 hy0
          · obtain ⟨id, hid, hb'⟩ := hFs j b hb
            exact ⟨.inr ⟨id, hid, hb'⟩, fun e => by have := hdl id hid b hb'; omega⟩
          · rw [Nat.zero_add]
            have hj' : j < (flat src).length := by rw [hflx] at hj; simpa using hj
            have e1 : (flat xs)[j] = laidC st.tree (flat src)[j] := by simp [hflx]
            rw [e1]
            exact (hTR j hj').mono (fun _ _ _ h => h) (fun fl b o hs => cell_alloc (hr1.inv.lt fl b o hs)) (fun b hb => by obtain ⟨id, hid, hb'⟩ := hFs j b hb; exact heap_alloc_eq (hdl id hid b hb')) (fun _ h => h))
      rw [hscr] at hr2
      refine done_value (hs1.trans hs2) hr2 hx2 ?_ he
      have hmap : (ps.map fun x => (x.1, a.eval x.2)) = (ps.map fun p => (p.1, a.eval p.2)) := rfl
      simp only [execOp, hop, Sem.run_bind]
      rw [hrun]
      rfl
    · simp at he
  · simp at he
end
end Go.Proofs.Ytggkeechdakccaa.Flat
/-
An element of a row of ours is written.
-/
namespace Go.Proofs.Ytggkeechdakccaa.Flat
section
variable {P : Program} {st st' : St} {a : Act} {w : World} {G : Gh} {X F : Nat → Prop} {nid : Nat} {o : Oper}
theorem RowOK.same {id : Nat} {fz fz' : Bool} {e e' sz sz' : Nat} {xs ys : List AV} (h : RowOK w G id fz e sz xs) (h' : RowOK w G id fz' e' sz' ys) (hne : xs ≠ []) : e = e' ∧ sz = sz' ∧ xs.length = ys.length := by
  have hs : sz = sz' := h.2.1.symm.trans h'.2.1
  rcases h.2.2.2.cases with ⟨h6, _⟩ | ⟨g, off, cap, cur, Fs, h5, hat⟩
  · exact absurd h6 hne
  · obtain ⟨g', off', cur', Fs', h1, h2, hat'⟩ := h'.at h5
    simp only [Addr.mk.injEq, and_true] at h1
    obtain ⟨rfl, rfl⟩ := h1
    have h3 := hat.heap
    rw [hat'.heap] at h3
    simp only [Option.some.injEq, Obj.cells.injEq, and_true] at h3
    exact ⟨h3.2.symm, hs, h2⟩
theorem flat_set {xs : List AV} {sz i : Nat} {x y : AV} (hsz : ∀ x ∈ xs, x.cells.length = sz) (hx : xs[i]? = some x) (hy : y.cells.length = sz) :
    flat (xs.set i y) = (flat xs).take (i * sz) ++ y.cells ++ (flat xs).drop (i * sz + sz) := by
  induction xs generalizing i with
  | nil => simp at hx
  | cons z xs ih =>
    have hz := hsz z (by simp)
    cases i with
    | zero =>
      rw [List.set_cons_zero, flat_cons, flat_cons]
      simp only [Nat.zero_mul, List.take_zero, List.nil_append, Nat.zero_add]
      rw [← hz, List.drop_left]
    | succ i =>
      have e : (i + 1) * sz = sz + i * sz := by rw [Nat.add_mul]; omega
      have hx' : xs[i]? = some x := by simpa using hx
      rw [List.set_cons_succ, flat_cons, flat_cons, ih (fun x hx => hsz x (by simp [hx])) hx', e, List.take_append, List.drop_append, hz, Nat.add_sub_cancel_left]
      have e1 : z.cells.take (sz + i * sz) = z.cells := List.take_of_length_le (by omega)
      have e2 : z.cells.drop (sz + i * sz + sz) = [] := List.drop_eq_nil_of_le (by omega)
      have e3 : sz + i * sz + sz - sz = i * sz + sz := by omega
      rw [e1, e2, e3]
      simp [List.append_assoc]
def Gh.merge (G : Gh) (id : Nat) (dead : List Nat) : Gh := { G with own := fun i b => G.own i b ∨ (i = id ∧ ∃ d ∈ dead, G.own d b), al := fun i => G.al i ∧ i ∉ dead }
theorem RowOK.merge {i id : Nat} {dead : List Nat} {fz : Bool} {e sz : Nat} {xs : List AV} (h : RowOK w G i fz e sz xs) (hi : i ∉ dead) : RowOK w (G.merge id dead) i fz e sz xs :=
  ⟨⟨h.1, hi⟩, h.2.1, h.2.2.1, h.2.2.2.mono (fun _ _ _ h => h) (fun _ _ _ _ => rfl) (fun _ _ => rfl) (fun _ hb => .inl hb)⟩
theorem Rel.merge [Kept] (h : Rel st a w G X F) {id : Nat} {dead : List Nat} (hal : G.al id) (hid : id ∉ dead) (hdead : ∀ d ∈ dead, G.al d ∧ G.lim d = 0) :
    Rel (st.scrub dead) a w (G.merge id dead) X F ∧ Step false w w G (G.merge id dead) X := by
  have hi := h.inv
  have how : ∀ {i b}, (G.merge id dead).al i → (G.merge id dead).own i b → G.al i ∧ i ∉ dead ∧ (G.own i b ∨ (i = id ∧ ∃ d ∈ dead, G.own d b)) := fun h1 h2 => ⟨h1.1, h1.2, h2⟩
  have hany : ∀ {i b}, (G.merge id dead).al i → (G.merge id dead).own i b → ∃ j, G.al j ∧ G.own j b ∧ (j = i ∨ (i = id ∧ j ∈ dead)) := by
    intro i b h1 h2
    rcases h2 with h2 | ⟨rfl, d, hd, h2⟩
    · exact ⟨i, h1.1, h2, .inl rfl⟩
    · exact ⟨d, (hdead d hd).1, h2, .inr ⟨rfl, hd⟩⟩
  have hk : Keep w w G (G.merge id dead) (fun i => i ∈ dead) := {
    S := fun _ _ _ hs => hs
    cell := fun _ _ _ _ => rfl
    row := fun i hn hal => ⟨⟨hal, hn⟩, rfl, rfl, rfl, fun g hg => ⟨.inl hg, rfl⟩⟩
    box := fun _ _ hb => hb }
  refine ⟨h.scrub hk (fun _ _ _ => rfl) ?_ (fun i hi' => ⟨fun h1 => (h.free i hi').1 h1.1, (h.free i hi').2⟩), ⟨rfl, rfl, rfl, Nat.le_refl _, fun _ _ _ => rfl, rfl, fun _ _ _ _ hs => hs, fun _ _ _ _ _ => rfl, fun _ _ _ hs => .inl hs, rfl, fun _ _ _ h => h⟩⟩
  exact {
    nb := hi.nb
    kept := hi.kept
    row := fun i g h1 h2 => by obtain ⟨j, h3, h4, _⟩ := hany h1 h2; exact hi.row j g h3 h4
    plain := fun i g h1 h2 => by obtain ⟨j, h3, h4, _⟩ := hany h1 h2; exact hi.plain j g h3 h4
    box := hi.box
    rows := fun i j g h1 h2 hij h3 h4 => by
      obtain ⟨p, p1, p2, p3⟩ := hany h1 h3
      obtain ⟨q, q1, q2, q3⟩ := hany h2 h4
      have hpq : p = q := Classical.byContradiction fun hne => hi.rows p q g p1 q1 hne p2 q2
      subst hpq
      rcases p3 with rfl | ⟨rfl, p3⟩ <;> rcases q3 with rfl | ⟨rfl, q3⟩
      · exact hij rfl
      · exact h1.2 q3
      · exact h2.2 p3
      · exact hij rfl
    boxes := hi.boxes
    rowBox := fun i j b h1 h2 => by obtain ⟨p, h3, h4, _⟩ := hany h1 h2; exact hi.rowBox p j b h3 h4
    lt := hi.lt
    old := hi.old
    new := hi.new
    sBox := hi.sBox
    sRow := fun fl b o i hs h1 h2 => by
      rcases h2 with h2 | ⟨rfl, d, hd, h2⟩
      · exact hi.sRow fl b o i hs h1.1 h2
      · have := (hi.sRow fl b o d hs (hdead d hd).1 h2).2
        rw [(hdead d hd).2] at this
        omega }
theorem Rel.setRow [Kept] (h : Rel st a w G X F) {id g off cap : Nat} {fz : Bool} {e sz : Nat} {xs xs' : List AV} {cur cur' : Array Value} {Fs Fs' : Nat → Nat → Prop} (hk : RowOK w G id fz e sz xs) (hne : xs ≠ []) (hlim : G.lim id = 0)
    (hρ : G.ρ id = .slice (some ⟨g, off, none⟩) xs.length cap) (hat : RowAt w G.S (G.own id) e sz xs g off cap cur Fs) (hsize : cur'.size = cur.size) (hlen : xs'.length = xs.length) (hsz : ∀ x ∈ xs', x.cells.length = sz) (hc : ∀ y ∈ flat xs', y.isCell = true)
    (hF : ∀ j b, Fs' j b → G.own id b ∧ b ≠ g) (hd : ∀ i j b, Fs' i b → Fs' j b → i = j) (hr : ∀ j (hj : j < (flat xs').length), TR w G.S (Fs' j) (flat xs')[j] (cur'.getD (off + j) undef)) :
    Rel (st.setRow id xs') a (w.setRow g cur') G X F ∧ Step false w (w.setRow g cur') G G X := by
  have hi := h.inv
  have hal := hk.1
  have hh := hat.heap
  have hset : (w.setRow g cur').heap[g]? = some (.cells cur' e (0, 0)) := setRow_heap w g cur cur' e _ hh
  have hoth : ∀ k, k ≠ g → (w.setRow g cur').heap[k]? = w.heap[k]? := fun k hk => setRow_other w g k _ (fun e => hk e)
  have hsz' : (w.setRow g cur').heap.size = w.heap.size := by simp
  have hnoS : ∀ fl o, ¬ G.S fl g o := fun fl o hs => by have := (hi.sRow fl g o id hs hal hat.own).2; omega
  have hcell : ∀ fl c o, G.S fl c o → (w.setRow g cur').cell? ⟨c, o, none⟩ = w.cell? ⟨c, o, none⟩ := by
    intro fl c o hs
    exact World.cell?_of_block (hoth c (fun e2 => hnoS fl o (e2 ▸ hs)))
  have hro : ∀ a v, RO w G.S a v → RO (w.setRow g cur') G.S a v := fun a v hv => hv.mono (fun _ _ _ hs => hs) hcell
  have hk2 : Keep w (w.setRow g cur') G G (fun i => i = id) := {
    S := fun _ _ _ hs => hs
    cell := hcell
    row := fun i hn hali => ⟨hali, rfl, rfl, rfl, fun b hb => ⟨hb, hoth b (fun e2 => hi.rows i id b hali hal hn hb (by rw [e2]; exact hat.own))⟩⟩
    box := fun _ _ hb => hb }
  have hnew : ∀ fz1 e1 sz1 ys, RowOK w G id fz1 e1 sz1 ys → RowOK (w.setRow g cur') G id fz1 e1 sz1 xs' := by
    intro fz1 e1 sz1 ys hk1
    obtain ⟨rfl, rfl, hl⟩ := hk.same hk1 hne
    refine ⟨hk1.1, hk1.2.1, by rw [hlim]; exact Nat.zero_le _, ?_⟩
    rw [hρ, ← hlen]
    exact .row _ _ _ _ g off cap cur' Fs' hat.own hset (by rw [hlen]; exact hat.le) hat.max (by rw [hsize]; exact hat.size) hsz hc hF hd
      (fun j hj => (hr j hj).mono (fun _ _ _ h => h) hcell (fun b hb => hoth b (hF j b hb).2) (fun _ h => h))
  have hrv : ∀ {v : AV} {x : Value}, RV w G v x → RV (w.setRow g cur') G (v.mapO (fun i fz e sz xs => if i = id then .own i fz e sz xs' else .own i fz e sz xs) .ptr (fun d i fz e sz xs k off => if i = id then .undef else .eptr d i fz e sz xs k off) (fun _ => .nils)) x := by
    intro v x hv
    refine RV.map hro ?_ (fun _ _ _ hb => .ptr _ _ _ hb) ?_ ?_ .nils hv
    · intro i fz1 e1 sz1 ys hk1
      by_cases hid : i = id
      · subst hid; rw [if_pos rfl]; exact .own _ _ _ _ _ (hnew _ _ _ _ hk1)
      · rw [if_neg hid]; exact .own _ _ _ _ _ (hk2.rowOK hid hk1)
    · intro i fz1 e1 sz1 ys k off ad n c hk1 hρ1
      by_cases hid : i = id
      · rw [if_pos hid]; exact rvUndef _
      · rw [if_neg hid]; exact .eptr _ _ _ _ _ _ _ _ n c (hk2.rowOK hid hk1) hρ1
    · intro i fz1 e1 sz1 ys k off ad n c v x hk1 hρ1 hx ho hv
      by_cases hid : i = id
      · rw [if_pos hid]; exact rvUndef _
      · rw [if_neg hid]; exact .sub _ _ _ _ _ _ _ _ n c v x (hk2.rowOK hid hk1) hρ1 hx ho (hk2.place hid hk1 hρ1 hv)
  refine ⟨⟨h.size, h.defers, fun i => ?_, fun i cs hcs => ?_, ?_, h.free⟩, ?_⟩
  · rw [St.setRow, St.get_mapO]; exact hrv (h.slot i)
  · rw [St.setRow, St.box_mapO] at hcs
    obtain ⟨cs0, hc0, rfl⟩ := Option.map_eq_some_iff.1 hcs
    obtain ⟨b, vs, T, h1, h2, h3, h4, h5, h6⟩ := h.box i cs0 hc0
    refine ⟨b, vs, T, h1, (hoth b (fun e2 => hi.rowBox id i b hal (by rw [e2]; exact hat.own) h1)).trans h2, by simpa using h3, fun y hy => ?_, h5, fun j hj => ?_⟩
    · obtain ⟨y0, hy0, rfl⟩ := List.mem_map.1 hy
      have hh := h4 y0 hy0
      cases y0 with
      | undef => exact .inr rfl
      | own i2 _ _ _ _ => simp only [AV.mapO]; split <;> exact .inl rfl
      | eptr d i2 _ _ _ _ _ _ => simp only [AV.mapO]; split <;> first | exact .inr rfl | exact .inl rfl
      | agg _ => rcases hh with hh | hh <;> simp [AV.isCell] at hh
      | tup _ => rcases hh with hh | hh <;> simp [AV.isCell] at hh
      | _ => exact .inl rfl
    · rw [List.getElem_map]; exact hrv (h6 j (by simpa using hj))
  · exact {
      nb := by rw [hsz']; exact hi.nb
      kept := hi.keeps fun c _ hx => hoth c (fun e2 => hx (by rw [e2]; exact (hi.row id g hal hat.own).1))
      row := fun i b hali hb => by rw [hsz']; exact hi.row i b hali hb
      plain := fun i b hali hb => by
        by_cases e2 : b = g
        · subst e2; exact ⟨_, _, hset⟩
        · obtain ⟨cur0, e0, h2⟩ := hi.plain i b hali hb; exact ⟨cur0, e0, (hoth b e2).trans h2⟩
      box := fun i c hc => by rw [hsz']; exact hi.box i c hc
      rows := hi.rows
      boxes := hi.boxes
      rowBox := hi.rowBox
      lt := fun fl c o hs => by rw [hsz']; exact hi.lt fl c o hs
      old := hi.old
      new := fun c o hs => by
        obtain ⟨h1, cur0, e0, h2⟩ := hi.new c o hs
        exact ⟨h1, cur0, e0, (hoth c (fun e2 => hnoS _ o (e2 ▸ hs))).trans h2⟩
      sBox := hi.sBox
      sRow := hi.sRow }
  · exact ⟨rfl, rfl, rfl, by rw [hsz']; exact Nat.le_refl _, fun c _ hx => hoth c (fun e2 => hx (by rw [e2]; exact (hi.row id g hal hat.own).1)), rfl, fun _ _ _ _ hs => hs, fun fl c o _ hs => hcell fl c o hs, fun _ _ _ hs => .inl hs, rfl, fun _ _ _ h => h⟩
theorem over_getD (l m : List Value) (K s q : Nat) (hm : m.length = s) (hl : K + s ≤ l.length) :
    (l.take K ++ m ++ l.drop (K + s)).toArray.getD q undef = if q < K then l.getD q undef else if q < K + s then m.getD (q - K) undef else l.getD q undef := by
  have hk : (l.take K).length = K := by simp; omega
  rw [toArray_getD]
  split
  · rename_i h1
    rw [List.append_assoc, append_getD_left (by omega), List.getD_eq_getElem?_getD, List.getElem?_take_of_lt h1, ← List.getD_eq_getElem?_getD]
  · rename_i h1
    split
    · rename_i h2
      rw [List.append_assoc, append_getD_right (by omega), hk, append_getD_left (by omega)]
    · rename_i h2
      rw [append_getD_right (by rw [List.length_append]; omega), List.length_append, hk, hm, List.getD_eq_getElem?_getD, List.getElem?_drop, ← List.getD_eq_getElem?_getD]
      congr 1
      omega
theorem evStoreElem_ok [Kept] {t id e0 sz i off : Nat} {p x : Operand} {ti : TI} {xs : List AV} {y : AV} (h : Rel st a w G X F) (hop : o.op = .store t p x) (hti : tiOf P t = some ti) (hp : st.val p = .eptr false id false e0 sz xs i off) (hy : xs[i]? = some y)
    (hl : (st.val x).cells.length = ti.size) (hfit : off + ti.size ≤ y.cells.length) (hc : ((st.val x).laid st.tree).cells.all AV.isCell = true) (hnid : id ∉ (st.val x).rows) (hnd : st.tree = false ∨ nodupB (st.val x).rows = true)
    (he : ((st.laid (st.val x).rows).setRow id (xs.set i (rebuild y (y.cells.take off ++ ((st.val x).laid st.tree).cells ++ y.cells.drop (off + ti.size))))).put o.dst .undef = some st') :
    Done false P o a w G X F st' := by
  have hpv := h.sees.val p
  rw [hp] at hpv
  obtain ⟨ad, n, c, hbv, hk, hρ⟩ : ∃ ad n c, a.eval p = .pointer (some (ad.add (i * sz + off))) ∧ RowOK w G id false e0 sz xs ∧ G.ρ id = .slice (some ad) n c := by
    generalize a.eval p = v at hpv
    cases hpv with
    | ro hr => cases hr
    | eptr _ _ _ _ _ _ _ ad n c hk hρ => exact ⟨ad, n, c, rfl, hk, hρ⟩
  have hne : xs ≠ [] := by intro e; subst e; simp at hy
  -- what is laid
  have hlc := laid_cells st.tree (st.val x)
  have hcC : ∀ q ∈ (st.val x).cells, (laidC st.tree q).isCell = true := fun q hq => by
    rw [hlc] at hc
    exact List.all_eq_true.1 hc _ (List.mem_map.2 ⟨q, hq, rfl⟩)
  have hux : st.val x ≠ .undef := by
    intro e
    have := hcC .undef (by simp [e, AV.cells])
    cases hst : st.tree <;> rw [hst] at this <;> simp [laidC, AV.treeC, AV.shutV, AV.mapO, AV.isCell] at this
  have hRx := (h.sees.val x).cells hux
  rw [rows_cells] at hnid hnd he
  obtain ⟨G1, dead, Fx, st1, hr1, hs1, hscr, hdead, hFx, hFxd, hTR, hkeep, hρ1⟩ := h.lay (vs := fun j => (a.eval x).cells.getD j undef) hRx.2 hcC hnd
  obtain ⟨hk1, hl1⟩ := hkeep id false e0 sz xs hnid hk
  have hidd : id ∉ dead := fun hd => hnid (hdead id hd).2.2
  obtain ⟨hr2, hs2⟩ := hr1.merge (id := id) (dead := dead) hk1.1 hidd (fun d hd => ⟨(hdead d hd).1, (hdead d hd).2.1⟩)
  rw [hscr] at hr2
  have hk2 : RowOK w (G1.merge id dead) id false e0 sz xs := hk1.merge hidd
  have hρ2 : (G1.merge id dead).ρ id = .slice (some ad) n c := by rw [← hρ, ← hρ1]; rfl
  have hlim : (G1.merge id dead).lim id = 0 := by have := hk.2.2.1; show G1.lim id = 0; rw [hl1]; simpa using this
  obtain ⟨g, o0, cur, Fs, rfl, rfl, hat⟩ := hk2.at hρ2
  have hvl : (a.eval x).cells.size = ti.size := by rw [hRx.1, hl]
  have hvl' : (a.eval x).cells.toList.length = ti.size := by simp [hvl]
  have hil : i < xs.length := (List.getElem?_eq_some_iff.1 hy).1
  have hym : y ∈ xs := List.mem_of_getElem? hy
  have hyl := hat.wide y hym
  have hdl : ((st.val x).laid st.tree).cells.length = ti.size := by rw [hlc, List.length_map, hl]
  have hone : ∀ u ∈ (a.eval x).cells.toList, u.oneCell' = true := by
    intro u hu
    obtain ⟨j, hj, rfl⟩ := List.getElem_of_mem hu
    have hj' : j < (st.val x).cells.length := by rw [hl, ← hvl']; exact hj
    have h4 := (hTR j hj').one (hcC _ (List.getElem_mem _))
    have hg := getD_lt (xs := (a.eval x).cells) (j := j) (by simpa using hj)
    rw [hg] at h4
    rw [Array.getElem_toList]
    exact h4
  generalize hcd : y.cells.take off ++ ((st.val x).laid st.tree).cells ++ y.cells.drop (off + ti.size) = cnew at he
  have hcl : cnew.length = sz := by rw [← hcd]; simp [hdl, hyl]; omega
  generalize hyd : rebuild y cnew = y' at he
  have hcnewc : ∀ z ∈ cnew, z.isCell = true := by
    intro z hz
    rw [← hcd] at hz
    have hyc : ∀ q ∈ y.cells, q.isCell = true := fun q hq => hat.cell q (List.mem_flatMap.2 ⟨y, hym, hq⟩)
    simp only [List.mem_append] at hz
    rcases hz with (hz | hz) | hz
    · exact hyc z (List.mem_of_mem_take hz)
    · exact List.all_eq_true.1 hc z hz
    · exact hyc z (List.mem_of_mem_drop hz)
  have hy'c : y'.cells = cnew := by
    rw [← hyd]
    unfold rebuild
    cases hy0 : y with
    | agg cs => rfl
    | _ =>
      rw [hy0] at hyl
      simp only [AV.cells, List.length_cons, List.length_nil] at hyl
      obtain ⟨q, rfl⟩ : ∃ q, cnew = [q] := by
        match cnew, hcl with
        | [q], _ => exact ⟨q, rfl⟩
        | [], hcl => simp at hcl; omega
        | _ :: _ :: _, hcl => simp at hcl; omega
      have := hcnewc q (by simp)
      simp only [List.headD_cons]
      cases q <;> first | rfl | simp [AV.isCell] at this
  have hmul : (i + 1) * sz ≤ xs.length * sz := Nat.mul_le_mul_right _ hil
  rw [Nat.add_mul, Nat.one_mul] at hmul
  have hcapmul : xs.length * sz ≤ c * sz := Nat.mul_le_mul_right _ hat.le
  have hcs := hat.size
  have hfx := hat.flatLen
  have hst := run_storeCells_at P g (o0 + (i * sz + off)) e0 (a.eval x).cells.toList 0 cur w hat.heap (by simp only [Array.length_toList, hvl]; omega) hone
  simp only [Nat.add_zero, Array.length_toList, hvl] at hst
  have hsz' : ∀ z ∈ xs.set i y', z.cells.length = sz := by
    intro z hz
    rcases List.mem_or_eq_of_mem_set hz with hz | rfl
    · exact hat.wide z hz
    · rw [hy'c]; exact hcl
  have hfs := flat_set hat.wide hy (show y'.cells.length = sz by rw [hy'c]; exact hcl)
  have hfl2 : flat (xs.set i y') = (flat xs).take (i * sz + off) ++ ((st.val x).laid st.tree).cells ++ (flat xs).drop (i * sz + off + ti.size) := by
    rw [hfs, hy'c, ← hcd]
    have ey : y.cells = ((flat xs).drop (i * sz)).take sz := by
      apply List.ext_getElem?
      intro q
      by_cases hq : q < sz
      · rw [List.getElem?_take_of_lt hq, List.getElem?_drop, ← flat_at hat.wide i q y hy hq]
      · rw [List.getElem?_eq_none (by omega), List.getElem?_eq_none (by simp; omega)]
    have e1 : y.cells.take off = ((flat xs).drop (i * sz)).take off := by rw [ey, List.take_take]; congr 1; omega
    have e2 : y.cells.drop (off + ti.size) = ((flat xs).drop (i * sz + off + ti.size)).take (sz - (off + ti.size)) := by rw [ey, List.drop_take, List.drop_drop]; congr 2; omega
    have e3 : (flat xs).drop (i * sz + off + ti.size) = ((flat xs).drop (i * sz + off + ti.size)).take (sz - (off + ti.size)) ++ (flat xs).drop (i * sz + sz) := by
      have e := List.take_append_drop (sz - (off + ti.size)) ((flat xs).drop (i * sz + off + ti.size))
      have e5 : i * sz + off + ti.size + (sz - (off + ti.size)) = i * sz + sz := by omega
      rw [List.drop_drop, e5] at e
      exact e.symm
    have e4 : (flat xs).take (i * sz + off) = (flat xs).take (i * sz) ++ ((flat xs).drop (i * sz)).take off := by rw [List.take_add]
    rw [e1, e2, e4]
    conv => rhs; rw [e3]
    simp only [List.append_assoc]
  have hov := fun q => over_getD cur.toList (a.eval x).cells.toList (o0 + (i * sz + off)) ti.size q hvl' (by simp; omega)
  have hcurD : ∀ q, cur.toList.getD q undef = cur.getD q undef := fun q => by rw [List.getD_eq_getElem?_getD, Array.getElem?_toList, ← Array.getD_eq_getD_getElem?]
  have hFxo : ∀ j b, Fx j b → (G1.merge id dead).own id b ∧ b ≠ g := by
    intro j b hb
    obtain ⟨d, hd, hb'⟩ := hFx j b hb
    refine ⟨.inr ⟨rfl, d, hd, hb'⟩, fun e => ?_⟩
    subst e
    have hgid : G1.own id b := by
      obtain ⟨g', o', cur', Fs', e1, _, hat'⟩ := hk1.at (by rw [← hρ2]; rfl)
      simp only [Addr.mk.injEq, and_true] at e1
      rw [e1.1]
      exact hat'.own
    exact hr1.inv.rows d id b (hdead d hd).1 hk1.1 (fun e => hidd (e ▸ hd)) hb' hgid
  -- the old cells' blocks, as they were before
  obtain ⟨g', o', cur', Fs0, e1, _, hat0⟩ := hk1.at (by rw [← hρ2]; rfl)
  simp only [Addr.mk.injEq, and_true] at e1
  obtain ⟨rfl, rfl⟩ := e1
  have hcc : cur' = cur := by
    have h3 := hat0.heap
    rw [hat.heap] at h3
    simpa using h3.symm
  subst hcc
  have hcross : ∀ {p q b}, Fs0 p b → Fx q b → False := by
    intro p q b h1 h2
    obtain ⟨d, hd, h3⟩ := hFx q b h2
    exact hr1.inv.rows d id b (hdead d hd).1 hk1.1 (fun e => hidd (e ▸ hd)) h3 (hat0.sub p b h1).1
  obtain ⟨hr3, hs3⟩ := hr2.setRow (xs' := xs.set i y') (cur' := (List.take (o0 + (i * sz + off)) cur'.toList ++ (a.eval x).cells.toList ++ List.drop (o0 + (i * sz + off) + ti.size) cur'.toList).toArray)
    (Fs' := fun j b => if i * sz + off ≤ j ∧ j < i * sz + off + ti.size then Fx (j - (i * sz + off)) b else Fs0 j b) hk2 hne hlim hρ2 hat
    (by simp [hvl]; omega) (by simp) hsz' (fun z hz => by
      rw [hfs, hy'c] at hz
      simp only [List.mem_append] at hz
      rcases hz with (hz | hz) | hz
      · exact hat.cell z (List.mem_of_mem_take hz)
      · exact hcnewc z hz
      · exact hat.cell z (List.mem_of_mem_drop hz)) (fun j b hb => by
      split at hb
      · exact hFxo _ b hb
      · exact ⟨.inl (hat0.sub j b hb).1, (hat0.sub j b hb).2⟩) (fun p q b hp hq => by
      split at hp <;> split at hq
      · have := hFxd _ _ b hp hq; omega
      · exact (hcross hq hp).elim
      · exact (hcross hp hq).elim
      · exact hat0.dis _ _ b hp hq) (fun j hj => by
      have hj0 : j < xs.length * sz := by have := flat_length hsz'; rw [this] at hj; simpa using hj
      rw [hov (o0 + j)]
      simp only [hfl2]
      by_cases c1 : j < i * sz + off
      · rw [if_pos (by omega), List.getElem_append_left (by simp; omega), List.getElem_append_left (by simp; omega), List.getElem_take, hcurD]
        simp only [show ¬ (i * sz + off ≤ j ∧ j < i * sz + off + ti.size) by omega, if_false]
        exact (hat0.rel j (by omega)).mono (fun _ _ _ h => h) (fun _ _ _ _ => rfl) (fun _ _ => rfl) (fun _ h => h)
      · rw [if_neg (by omega)]
        by_cases c2 : j < i * sz + off + ti.size
        · rw [if_pos (by omega), List.getElem_append_left (by simp [hdl]; omega), List.getElem_append_right (by simp; omega)]
          simp only [show (i * sz + off ≤ j ∧ j < i * sz + off + ti.size) by omega, and_self, if_true]
          have e : j - ((flat xs).take (i * sz + off)).length = j - (i * sz + off) := by simp; omega
          have e2 : o0 + j - (o0 + (i * sz + off)) = j - (i * sz + off) := by omega
          have hj2 : j - (i * sz + off) < (st.val x).cells.length := by rw [hl]; omega
          have h5 := hTR (j - (i * sz + off)) hj2
          have e3 : ((st.val x).laid st.tree).cells[j - (i * sz + off)]'(by rw [hdl]; omega) = laidC st.tree ((st.val x).cells[j - (i * sz + off)]'hj2) := by
            simp only [hlc, List.getElem_map]
          simp only [e, e2, e3]
          rw [List.getD_eq_getElem?_getD, Array.getElem?_toList, ← Array.getD_eq_getD_getElem?]
          exact h5.mono (fun _ _ _ h => h) (fun _ _ _ _ => rfl) (fun _ _ => rfl) (fun _ h => h)
        · rw [if_neg (by omega), List.getElem_append_right (by simp [hdl]; omega), hcurD]
          simp only [show ¬ (i * sz + off ≤ j ∧ j < i * sz + off + ti.size) by omega, if_false]
          have e : j - ((flat xs).take (i * sz + off) ++ ((st.val x).laid st.tree).cells).length = j - (i * sz + off + ti.size) := by simp [hdl]; omega
          simp only [e, List.getElem_drop]
          have e2 : i * sz + off + ti.size + (j - (i * sz + off + ti.size)) = j := by omega
          simp only [e2]
          exact (hat0.rel j (by omega)).mono (fun _ _ _ h => h) (fun _ _ _ _ => rfl) (fun _ _ => rfl) (fun _ h => h))
  refine ⟨_, _, (hs1.trans hs2).trans hs3, .inr ⟨?_, (hr3.put (rvUndef _) he).1⟩⟩
  have hszr := run_size hti w
  simp only [execOp, hop, hbv]
  rw [add_eq rfl]
  simp [Instr.storeAt, Instr.sureAddr, storeVar, hszr, hvl, hst]
theorem TR.cut {S : Cells} {F : Nat → Prop} {e sz : Nat} {xs : List AV} {A : Option Addr} {n c l hh : Nat} (h : TR w S F (.tr e sz xs) (.slice A n c)) (hlh : l ≤ hh) (hhx : hh ≤ xs.length) :
    TR w S F (.tr e sz ((xs.take hh).drop l)) (sliced A l hh c sz) ∧ ∀ b, (sliced A l hh c sz).ownBlock = some b → (Value.slice A n c).ownBlock = some b := by
  have hlen : ((xs.take hh).drop l).length = hh - l := by simp; omega
  rcases h.cases with ⟨rfl, h1⟩ | ⟨g, off, cap, cur, Fs, h1, hat⟩
  · simp only [Value.slice.injEq] at h1
    obtain ⟨rfl, rfl, rfl⟩ := h1
    have e1 : hh = 0 := by simpa using hhx
    subst e1
    have e2 : l = 0 := by omega
    subst e2
    exact ⟨.nil _ _ _, fun b hb => by simp [sliced, Value.ownBlock] at hb⟩
  · simp only [Value.slice.injEq] at h1
    obtain ⟨rfl, rfl, rfl⟩ := h1
    unfold sliced
    by_cases hcl : c = l
    · rw [if_pos hcl]
      have hle := hat.le
      have e1 : hh - l = 0 := by omega
      have e2 : c - l = 0 := by omega
      have e3 : (xs.take hh).drop l = [] := List.eq_nil_of_length_eq_zero (by rw [hlen]; exact e1)
      rw [e1, e2, e3]
      exact ⟨.row _ _ _ [] g off 0 cur (fun _ _ => False) hat.own hat.heap (Nat.le_refl _) (Nat.zero_le _) (by have := hat.size; omega) (by simp) (by simp [flat]) (fun _ _ h => h.elim) (fun _ _ _ h => h.elim) (fun j hj => by simp [flat] at hj), fun b hb => by simpa [Value.ownBlock] using hb⟩
    · rw [if_neg hcl, Option.map_some, add_eq rfl]
      have hmem : ∀ x ∈ (xs.take hh).drop l, x ∈ xs := fun x hx => List.mem_of_mem_take (List.mem_of_mem_drop hx)
      have hflat : flat ((xs.take hh).drop l) = ((flat xs).take (hh * sz)).drop (l * sz) := by
        rw [flat_drop (fun x hx => hat.wide x (List.mem_of_mem_take hx)), flat_take hat.wide]
      have hfl := hat.flatLen
      have hle := hat.le
      have hcap : l * sz + (c - l) * sz = c * sz := by rw [← Nat.add_mul]; congr 1; omega
      rw [← hlen]
      refine ⟨.row _ _ _ _ g (off + l * sz) (c - l) cur (fun j => Fs (l * sz + j)) hat.own hat.heap (by rw [hlen]; omega) (by have := hat.max; omega) (by have := hat.size; omega) (fun x hx => hat.wide x (hmem x hx)) (fun y hy => ?_) (fun j b hb => hat.sub _ b hb) (fun i j b hi hj => ?_) (fun j hj => ?_), fun b hb => by simpa [Value.ownBlock] using hb⟩
      · rw [hflat] at hy
        exact hat.cell y (List.mem_of_mem_take (List.mem_of_mem_drop hy))
      · have := hat.dis _ _ b hi hj; omega
      · have hj' := hj
        rw [hflat] at hj'
        simp only [List.length_drop, List.length_take] at hj'
        have e : (flat ((xs.take hh).drop l))[j] = (flat xs)[l * sz + j]'(by omega) := by simp [hflat]
        rw [e, Nat.add_assoc]
        exact hat.rel _ _
theorem evCutOwn_ok [Kept] {t : Nat} {x : Operand} {lo hi : Option Operand} (h : Rel st a w G X F) (hX : ∀ b, w.heap.size ≤ b → X b) (hF : F nid) (hop : o.op = .slice t x lo hi none)
    (he : evCutOwn P t (st.val x) (optAV st.val lo) (optAV st.val hi) nid o.dst st = some st') : Done false P o a w G X (fun i => F i ∧ i ≠ nid) st' := by
  have hi' := h.inv
  unfold evCutOwn at he
  split at he
  · rename_i hst
    obtain ⟨ti, hti, he⟩ := Option.bind_eq_some_iff.1 he
    obtain ⟨te, hte, he⟩ := Option.bind_eq_some_iff.1 he
    have hu := tagOf_slice (of_decide_eq_true hst) hti
    have helem := elem_of_slice hu
    have hu' : P.underlying t = some (.slice (P.elem t)) := by rw [helem]; exact hu
    split at he
    · rename_i id e sz xs hx
      split at he
      · rename_i hsz
        subst hsz
        have hxv := h.sees.val x
        rw [hx] at hxv
        obtain ⟨e1, hk⟩ := hxv.own_inv
        obtain ⟨A, c, hρ, hxc⟩ := hk.header
        have hlim : G.lim id = 0 := by have := hk.2.2.1; simpa using this
        have hsize := run_size (w := w) hte
        have hlo := optAV_rel h.sees.val lo
        have hhi := optAV_rel h.sees.val hi
        -- once the bounds are known
        have fin : ∀ l hh, l ≤ hh → hh ≤ xs.length → (Instr.slice t (a.eval x) (lo.map a.eval) (hi.map a.eval) none).run P w = .ok (sliced A l hh c te.size) w → (st.scrub [id]).put o.dst (.own nid false e te.size ((xs.take hh).drop l)) = some st' →
            Done false P o a w G X (fun i => F i ∧ i ≠ nid) st' := by
          intro l hh hlh hhx hrun hput
          have ht := hk.2.2.2
          rw [hρ] at ht
          obtain ⟨htr, hob⟩ := ht.cut hlh hhx
          obtain ⟨hr1, hs1, hx1⟩ := h.newRow (w' := w) (nid := nid) (dead := [id]) (v := sliced A l hh c te.size) (L := 0) (own := G.own id) (fz := false) (e := e) (sz := te.size) (xs := (xs.take hh).drop l) hX hF (by simpa using hk.1) rfl rfl rfl (Nat.le_refl _) (fun _ _ _ => rfl) (fun _ _ _ _ => rfl)
            (fun i hd b hb => by obtain rfl : i = id := (by simpa using hd); exact hi'.plain i b hk.1 hb) (fun g hg => .inr ⟨id, by simp, hg⟩)
            (fun fl b o hs hb => by have := (hi'.sRow fl b o id hs hk.1 hb).2; omega) (Nat.zero_le _) htr
          refine done_value hs1 hr1 hx1 ?_ hput
          have hsl : (Instr.sliceAt t (a.eval x) (lo.map a.eval) (hi.map a.eval) none).run P w = (Instr.slice t (a.eval x) (lo.map a.eval) (hi.map a.eval) none).run P w := by
            rw [e1, hρ]
            simp [Instr.sliceAt, run_und hu]
          simp only [execOp, hop, Sem.run_bind, Option.map_none]
          rw [hsl, hrun]
          rfl
        split at he
        · rename_i k n hq hq2
          rw [hq] at hlo
          rw [hq2] at hhi
          split at he
          · rename_i hn
            have hput := he
            obtain ⟨h0, h1⟩ := hn
            cases hi with
            | some _ => simp at hhi
            | none =>
              cases lo with
              | none => simp at hlo
              | some lo =>
                have hv := RV.int_inv hlo
                refine fin n.toNat xs.length (by omega) (Nat.le_refl _) ?_ (by rw [List.take_length]; exact hput)
                simp only [Option.map_some, Option.map_none]
                rw [hv, e1, hρ, run_slice_l w t A xs.length c hu' k n h0 h1, helem, hsize]
                rfl
          · simp at he
        · rename_i k n hq hq2
          rw [hq] at hlo
          rw [hq2] at hhi
          split at he
          · rename_i hn
            have hput := he
            obtain ⟨h0, h1⟩ := hn
            cases lo with
            | some _ => simp at hlo
            | none =>
              cases hi with
              | none => simp at hhi
              | some hi =>
                have hv := RV.int_inv hhi
                refine fin 0 n.toNat (by omega) (by omega) ?_ (by rw [List.drop_zero]; exact hput)
                simp only [Option.map_some, Option.map_none]
                rw [hv, e1, hρ, run_slice_h w t A xs.length c hu' k n h0 (by omega), helem, hsize]
                rfl
          · simp at he
        · rename_i k n k' m hq hq2
          rw [hq] at hlo
          rw [hq2] at hhi
          split at he
          · rename_i hn
            have hput := he
            obtain ⟨h0, h1, h2⟩ := hn
            cases lo with
            | none => simp at hlo
            | some lo =>
              cases hi with
              | none => simp at hhi
              | some hi =>
                have hv := RV.int_inv hlo
                have hv2 := RV.int_inv hhi
                refine fin n.toNat m.toNat (by omega) (by omega) ?_ hput
                simp only [Option.map_some]
                rw [hv, hv2, e1, hρ, run_slice_lh w t A xs.length c hu' k k' n m h0 h1 (by omega), helem, hsize]
                rfl
          · simp at he
        · simp at he
      · simp at he
    · simp at he
  · simp at he
end
end Go.Proofs.Ytggkeechdakccaa.Flat
