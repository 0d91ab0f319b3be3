/-
An element of a row of ours is written.
-/
import Derived.Test.YtgckhjcfcandmaaFlatQ
set_option linter.unusedVariables false
set_option linter.unusedSimpArgs false
namespace Go.Proofs.Ytgckhjcfcandmaa.Flat
section
variable {P : Program} {st st' : St} {a : Act} {w : World} {G : Gh} {X F : Nat → Prop} {nid : Nat} {o : Oper}

theorem RowOK.same {id : Nat} {fz fz' : Bool} {e e' sz sz' : Nat} {xs ys : List AV} (h : RowOK w G id fz e sz xs) (h' : RowOK w G id fz' e' sz' ys) (hne : xs ≠ []) : e = e' ∧ sz = sz' ∧ xs.length = ys.length := by
  obtain ⟨_, _, _, _, inner, ho, _⟩ := h
  obtain ⟨_, _, _, _, inner', ho', _⟩ := h'
  have hpos : 0 < xs.length := by cases xs <;> simp_all
  rcases ho.2 with ⟨h5, h6⟩ | ⟨g, cap, cur, h5, h0, h7, h6, hm, hs, _⟩
  · omega
  · rcases ho'.2 with ⟨h5', h6'⟩ | ⟨g', cap', cur', h5', h0', h7', h6', hm', hs', _⟩
    · rw [h5] at h5'; simp at h5'
    · rw [h5] at h5'
      simp only [Value.slice.injEq, Option.some.injEq, Addr.mk.injEq, and_true] at h5'
      obtain ⟨rfl, h8, rfl⟩ := h5'
      rw [h7] at h7'
      simp only [Option.some.injEq, Obj.cells.injEq, and_true] at h7'
      obtain ⟨rfl, rfl⟩ := h7'
      rw [hs] at hs'
      exact ⟨rfl, Nat.eq_of_mul_eq_mul_left (by omega) hs', h8⟩

theorem flat_set {xs : List AV} {sz i : Nat} {x y : AV} (hsz : ∀ x ∈ xs, x.cells.length = sz) (hx : xs[i]? = some x) (hy : y.cells.length = sz) :
    flat (xs.set i y) = (flat xs).take (i * sz) ++ y.cells ++ (flat xs).drop (i * sz + sz) := by
  induction xs generalizing i with
  | nil => simp at hx
  | cons z xs ih =>
    have hz := hsz z (by simp)
    cases i with
    | zero =>
      rw [List.set_cons_zero, flat_cons, flat_cons]
      simp only [Nat.zero_mul, List.take_zero, List.nil_append, Nat.zero_add]
      rw [← hz, List.drop_left]
    | succ i =>
      have e : (i + 1) * sz = sz + i * sz := by rw [Nat.add_mul]; omega
      have hx' : xs[i]? = some x := by simpa using hx
      rw [List.set_cons_succ, flat_cons, flat_cons, ih (fun x hx => hsz x (by simp [hx])) hx', e, List.take_append, List.drop_append, hz, Nat.add_sub_cancel_left]
      have e1 : z.cells.take (sz + i * sz) = z.cells := List.take_of_length_le (by omega)
      have e2 : z.cells.drop (sz + i * sz + sz) = [] := List.drop_eq_nil_of_le (by omega)
      have e3 : sz + i * sz + sz - sz = i * sz + sz := by omega
      rw [e1, e2, e3]
      simp [List.append_assoc]

theorem take_over {α : Type} (l V : List α) (K s N : Nat) (hV : V.length = s) (h : K + s ≤ N) (h2 : N ≤ l.length) :
    (l.take K ++ V ++ l.drop (K + s)).take N = (l.take N).take K ++ V ++ (l.take N).drop (K + s) := by
  have e1 : (l.take K).length = K := by rw [List.length_take]; omega
  have e2 : (l.take N).take K = l.take K := by rw [List.take_take, Nat.min_eq_left (by omega)]
  rw [e2, List.take_append, List.length_append, e1, hV, List.take_of_length_le (by rw [List.length_append, e1, hV]; omega), List.drop_take]

/-- All handles of row id hold the new elements. -/
theorem Rel.setRow (h : Rel st a w G X F) {id g : Nat} {fz : Bool} {e sz n cap : Nat} {xs xs' : List AV} {cur cur' : Array Value} {inner' : List Value} (hk : RowOK w G id fz e sz xs) (hne : xs ≠ []) (hlim : G.lim id = 0)
    (hρ : G.ρ id = .slice (some ⟨g, 0, none⟩) n cap) (hh : w.heap[g]? = some (.cells cur e (0, 0))) (hsize : cur'.size = cur.size) (hlen : xs'.length = xs.length) (hsz : ∀ x ∈ xs', x.cells.length = sz) (hc : ∀ y ∈ flat xs', y.isCell = true)
    (hin : cur'.toList.take (xs.length * sz) = inner') (hr : ∀ j (hj : j < (flat xs').length), RO w G.S (flat xs')[j] (inner'.getD j undef)) :
    Rel (st.setRow id xs') a (w.setRow g cur') G X F ∧ Step false w (w.setRow g cur') G G X := by
  have hi := h.inv
  have hal := hk.1
  have hgb : (G.ρ id).ownBlock = some g := by rw [hρ]; rfl
  have hset : (w.setRow g cur').heap[g]? = some (.cells cur' e (0, 0)) := setRow_heap w g cur cur' e _ hh
  have hoth : ∀ k, k ≠ g → (w.setRow g cur').heap[k]? = w.heap[k]? := fun k hk => setRow_other w g k _ (fun e => hk e)
  have hsz' : (w.setRow g cur').heap.size = w.heap.size := by simp
  have hnoS : ∀ fl o, ¬ G.S fl g o := fun fl o hs => by have := hi.sRow fl g o id hs hal hgb; omega
  have hcell : ∀ fl c o, G.S fl c o → (w.setRow g cur').cell? ⟨c, o, none⟩ = w.cell? ⟨c, o, none⟩ := by
    intro fl c o hs
    exact World.cell?_of_block (hoth c (fun e2 => hnoS fl o (e2 ▸ hs)))
  have hro : ∀ a v, RO w G.S a v → RO (w.setRow g cur') G.S a v := fun a v hv => hv.mono (fun _ _ _ hs => hs) hcell
  have hrowne : ∀ i, i ≠ id → G.al i → ∀ b, (G.ρ i).ownBlock = some b → (w.setRow g cur').heap[b]? = w.heap[b]? := fun i hne2 hali b hb => hoth b (fun e2 => hi.rows i id b hali hal hne2 hb (by rw [e2]; exact hgb))
  have hkeep : ∀ i fz1 e1 sz1 ys, i ≠ id → RowOK w G i fz1 e1 sz1 ys → RowOK (w.setRow g cur') G i fz1 e1 sz1 ys := by
    intro i fz1 e1 sz1 ys hne2 hk1
    obtain ⟨h1, h2, h3, h4, inn, ho, hr1⟩ := hk1
    exact ⟨h1, h2, h3, h4, inn, ownsRow_move ho (hrowne i hne2 h1), fun j hj => hro _ _ (hr1 j hj)⟩
  have hnew : ∀ fz1 e1 sz1 ys, RowOK w G id fz1 e1 sz1 ys → RowOK (w.setRow g cur') G id fz1 e1 sz1 xs' := by
    intro fz1 e1 sz1 ys hk1
    obtain ⟨rfl, rfl, hl⟩ := hk.same hk1 hne
    obtain ⟨h1, h2, h3, h4, inn, ho, hr1⟩ := hk1
    refine ⟨h1, by rw [hlim]; exact Nat.zero_le _, hsz, hc, inner', ?_, fun j hj => hro _ _ (hr j hj)⟩
    rcases ho.2 with ⟨h5, h6⟩ | ⟨g', cap', cur0, h5, h0, h7, h6, hm, hs, _⟩
    · rw [hρ] at h5; simp at h5
    · have h5' := h5
      rw [hρ] at h5'
      simp only [Value.slice.injEq, Option.some.injEq, Addr.mk.injEq, and_true] at h5'
      obtain ⟨rfl, h8, rfl⟩ := h5'
      have h9 : cur0 = cur := by rw [hh] at h7; simpa using h7.symm
      subst h9
      have hcl : cur'.toList.length = cap * sz := by rw [Array.length_toList, hsize, hs]
      have hm2 : xs.length * sz ≤ cap * sz := Nat.mul_le_mul_right _ (by omega)
      refine ⟨?_, .inr ⟨g, cap, cur', by rw [h5]; congr 1; omega, Nat.zero_le _, hset, by omega, hm, by rw [hsize, hs], by rw [hlen]; exact hin⟩⟩
      rw [← hin, List.length_take, hcl, hlen]
      omega
  have hrv : ∀ {v : AV} {x : Value}, RV w G v x → RV (w.setRow g cur') G (v.mapO (fun i fz e sz xs => if i = id then .own i fz e sz xs' else .own i fz e sz xs) .ptr (fun i fz e sz xs k off => if i = id then .undef else .eptr i fz e sz xs k off) (fun _ => .nils)) x := by
    intro v x hv
    refine RV.map hro ?_ (fun _ _ _ hb => .ptr _ _ _ hb) ?_ .nils hv
    · intro i fz1 e1 sz1 ys hk1
      by_cases hid : i = id
      · subst hid; rw [if_pos rfl]; exact .own _ _ _ _ _ (hnew _ _ _ _ hk1)
      · rw [if_neg hid]; exact .own _ _ _ _ _ (hkeep _ _ _ _ _ hid hk1)
    · intro i fz1 e1 sz1 ys k off ad n c hk1 hρ1
      by_cases hid : i = id
      · rw [if_pos hid]; exact rvUndef _
      · rw [if_neg hid]; exact .eptr _ _ _ _ _ _ _ _ n c (hkeep _ _ _ _ _ hid hk1) hρ1
  refine ⟨⟨h.size, h.defers, fun i => ?_, fun i cs hcs => ?_, ?_, h.free⟩, ?_⟩
  · rw [St.setRow, St.get_mapO]; exact hrv (h.slot i)
  · rw [St.setRow, St.box_mapO] at hcs
    obtain ⟨cs0, hc0, rfl⟩ := Option.map_eq_some_iff.1 hcs
    obtain ⟨b, vs, T, h1, h2, h3, h4, h5, h6⟩ := h.box i cs0 hc0
    refine ⟨b, vs, T, h1, (hoth b (fun e2 => hi.rowBox id i b hal (by rw [e2]; exact hgb) h1)).trans h2, by simpa using h3, fun y hy => ?_, h5, fun j hj => ?_⟩
    · obtain ⟨y0, hy0, rfl⟩ := List.mem_map.1 hy
      have hh := h4 y0 hy0
      cases y0 with
      | undef => exact .inr rfl
      | own i2 _ _ _ _ => simp only [AV.mapO]; split <;> exact .inl rfl
      | eptr i2 _ _ _ _ _ _ => simp only [AV.mapO]; split <;> first | exact .inr rfl | exact .inl rfl
      | agg _ => rcases hh with hh | hh <;> simp [AV.isCell] at hh
      | tup _ => rcases hh with hh | hh <;> simp [AV.isCell] at hh
      | _ => exact .inl rfl
    · rw [List.getElem_map]; exact hrv (h6 j (by simpa using hj))
  · exact {
      nb := by rw [hsz']; exact hi.nb
      row := fun i b hali hb => by rw [hsz']; exact hi.row i b hali hb
      box := fun i c hc => by rw [hsz']; exact hi.box i c hc
      rows := hi.rows
      boxes := hi.boxes
      rowBox := hi.rowBox
      lt := fun fl c o hs => by rw [hsz']; exact hi.lt fl c o hs
      old := hi.old
      new := fun c o hs => by
        obtain ⟨h1, cur0, e0, h2⟩ := hi.new c o hs
        exact ⟨h1, cur0, e0, (hoth c (fun e2 => hnoS _ o (e2 ▸ hs))).trans h2⟩
      sBox := hi.sBox
      sRow := hi.sRow }
  · exact ⟨rfl, rfl, rfl, by rw [hsz']; exact Nat.le_refl _, fun c _ hx => hoth c (fun e2 => hx (by rw [e2]; exact (hi.row id g hal hgb).1)), rfl, fun _ _ _ _ hs => hs, fun fl c o _ hs => hcell fl c o hs, fun _ _ _ hs => .inl hs⟩

theorem evStoreElem_ok {t id e0 sz i off : Nat} {p x : Operand} {ti : TI} {xs : List AV} {y : AV} (h : Rel st a w G X F) (hop : o.op = .store t p x) (hti : tiOf P t = some ti) (hp : st.val p = .eptr id false e0 sz xs i off) (hy : xs[i]? = some y)
    (hl : (st.val x).cells.length = ti.size) (hfit : off + ti.size ≤ y.cells.length) (hc : (st.val x).shutV.cells.all AV.isCell = true) (hsl : (st.val x).shutV.cells.length = ti.size) (hnid : id ∉ (st.val x).rows)
    (he : ((st.freeze (st.val x).rows).setRow id (xs.set i (rebuild y (y.cells.take off ++ (st.val x).shutV.cells ++ y.cells.drop (off + ti.size))))).put o.dst .undef = some st') :
    Done false P o a w G X F st' := by
  have hpv := h.sees.val p
  rw [hp] at hpv
  obtain ⟨ad, n, c, hbv, hk, hρ⟩ : ∃ ad n c, a.eval p = .pointer (some (ad.add (i * sz + off))) ∧ RowOK w G id false e0 sz xs ∧ G.ρ id = .slice (some ad) n c := by
    generalize a.eval p = v at hpv
    cases hpv with
    | ro hr => cases hr
    | eptr _ _ _ _ _ _ _ ad n c hk hρ => exact ⟨ad, n, c, rfl, hk, hρ⟩
  have hids : ∀ id ∈ (st.val x).rows, ∃ fz e sz xs, RowOK w G id fz e sz xs := (h.sees.val x).rows_al
  obtain ⟨hr0, hs0⟩ := h.freeze hids
  have hne : xs ≠ [] := by intro e; subst e; simp at hy
  have hlim : (G.freeze w (st.val x).rows).lim id = 0 := by
    have : (G.freeze w (st.val x).rows).lim id = G.lim id := by simp [Gh.freeze, hnid]
    rw [this]
    have := hk.2.1
    simpa using this
  -- row id in the ghost with more that is read
  have hk1 : RowOK w (G.freeze w (st.val x).rows) id false e0 sz xs := by
    obtain ⟨h1, h2, h3, h4, inner, ho, hr⟩ := hk
    exact ⟨h1, by rw [hlim]; exact Nat.zero_le _, h3, h4, inner, ho, fun j hj => (hr j hj).mono (fun _ _ _ hs => Or.inl hs) (fun _ _ _ _ => rfl)⟩
  have hk1' := hk1
  obtain ⟨h1, h2, h3, h4, inner, ho, hr⟩ := hk1
  have hil : i < xs.length := (List.getElem?_eq_some_iff.1 hy).1
  have hym : y ∈ xs := List.mem_of_getElem? hy
  have hyl := h3 y hym
  have hρ1 : (G.freeze w (st.val x).rows).ρ id = .slice (some ad) n c := hρ
  rw [hρ1] at ho
  rcases ho.2 with ⟨h5, h6⟩ | ⟨g, cap, cur, h5, h0, h7, h6, hm, hs, htake⟩
  · simp at h5
  · simp only [Value.slice.injEq, Option.some.injEq] at h5
    obtain ⟨rfl, rfl, rfl⟩ := h5
    have hsro := (h.sees.val x).shutV (ids := (st.val x).rows) (fun _ hid => hid)
    obtain ⟨hsR, hsone⟩ := hsro.cells hc
    have hvl : (a.eval x).cells.size = ti.size := by rw [hsR.1, hsl]
    generalize hcd : y.cells.take off ++ (st.val x).shutV.cells ++ y.cells.drop (off + ti.size) = cnew at he
    have hcl : cnew.length = sz := by rw [← hcd]; simp [hsl, hyl]; omega
    generalize hyd : rebuild y cnew = y' at he
    have hcnewc : ∀ z ∈ cnew, z.isCell = true := by
      intro z hz
      rw [← hcd] at hz
      have hyc : ∀ q ∈ y.cells, q.isCell = true := fun q hq => h4 q (List.mem_flatMap.2 ⟨y, hym, hq⟩)
      simp only [List.mem_append] at hz
      rcases hz with (hz | hz) | hz
      · exact hyc z (List.mem_of_mem_take hz)
      · exact List.all_eq_true.1 hc z hz
      · exact hyc z (List.mem_of_mem_drop hz)
    have hy'c : y'.cells = cnew := by
      rw [← hyd]
      unfold rebuild
      cases hy0 : y with
      | agg cs => rfl
      | _ =>
        rw [hy0] at hyl
        simp only [AV.cells, List.length_cons, List.length_nil] at hyl
        obtain ⟨q, rfl⟩ : ∃ q, cnew = [q] := by
          match cnew, hcl with
          | [q], _ => exact ⟨q, rfl⟩
          | [], hcl => simp at hcl; omega
          | _ :: _ :: _, hcl => simp at hcl; omega
        have := hcnewc q (by simp)
        simp only [List.headD_cons]
        cases q <;> first | rfl | simp [AV.isCell] at this
    have hmul : (i + 1) * sz ≤ xs.length * sz := Nat.mul_le_mul_right _ hil
    rw [Nat.add_mul, Nat.one_mul] at hmul
    have hcapmul : xs.length * sz ≤ c * sz := Nat.mul_le_mul_right _ h6
    have hcurlen : cur.toList.length = c * sz := by simpa using hs
    have hfx : (flat xs).length = xs.length * sz := flat_length h3
    have hst := run_storeCells_at P g (i * sz + off) e0 (a.eval x).cells.toList 0 cur w h7 (by simp only [Array.length_toList, hvl, hs]; omega) hsone
    simp only [Nat.add_zero, Array.length_toList, hvl] at hst
    have hsz' : ∀ z ∈ xs.set i y', z.cells.length = sz := by
      intro z hz
      rcases List.mem_or_eq_of_mem_set hz with hz | rfl
      · exact h3 z hz
      · rw [hy'c]; exact hcl
    have hfs := flat_set h3 hy (show y'.cells.length = sz by rw [hy'c]; exact hcl)
    obtain ⟨hr1, hs1⟩ := hr0.setRow (xs' := xs.set i y') (cur' := (List.take (i * sz + off) cur.toList ++ (a.eval x).cells.toList ++ List.drop (i * sz + off + ti.size) cur.toList).toArray)
      (inner' := inner.take (i * sz + off) ++ (a.eval x).cells.toList ++ inner.drop (i * sz + off + ti.size)) hk1' hne hlim hρ1 h7
      (by simp [hvl]; rw [hs]; omega) (by simp) hsz' (fun z hz => by
        rw [hfs, hy'c] at hz
        simp only [List.mem_append] at hz
        rcases hz with (hz | hz) | hz
        · exact h4 z (List.mem_of_mem_take hz)
        · exact hcnewc z hz
        · exact h4 z (List.mem_of_mem_drop hz)) (by
        rw [← htake]
        exact take_over cur.toList _ _ _ _ (by simp [hvl]) (by omega) (by omega)) (fun j hj => by
        have hil' : inner.length = (flat xs).length := by rw [hfx]; exact ho.1
        have hvl' : (a.eval x).cells.toList.length = ti.size := by simp [hvl]
        have hj0 : j < xs.length * sz := by have := flat_length hsz'; rw [this] at hj; simpa using hj
        -- the cell's place in the flat list
        have hfl2 : flat (xs.set i y') = (flat xs).take (i * sz + off) ++ (st.val x).shutV.cells ++ (flat xs).drop (i * sz + off + ti.size) := by
          rw [hfs, hy'c, ← hcd]
          have ey : y.cells = ((flat xs).drop (i * sz)).take sz := by
            apply List.ext_getElem?
            intro q
            by_cases hq : q < sz
            · rw [List.getElem?_take_of_lt hq, List.getElem?_drop, ← flat_at h3 i q y hy hq]
            · rw [List.getElem?_eq_none (by omega), List.getElem?_eq_none (by simp; omega)]
          have e1 : y.cells.take off = ((flat xs).drop (i * sz)).take off := by rw [ey, List.take_take]; congr 1; omega
          have e2 : y.cells.drop (off + ti.size) = ((flat xs).drop (i * sz + off + ti.size)).take (sz - (off + ti.size)) := by rw [ey, List.drop_take, List.drop_drop]; congr 2; omega
          have e3 : (flat xs).drop (i * sz + off + ti.size) = ((flat xs).drop (i * sz + off + ti.size)).take (sz - (off + ti.size)) ++ (flat xs).drop (i * sz + sz) := by
            have e := List.take_append_drop (sz - (off + ti.size)) ((flat xs).drop (i * sz + off + ti.size))
            have e5 : i * sz + off + ti.size + (sz - (off + ti.size)) = i * sz + sz := by omega
            rw [List.drop_drop, e5] at e
            exact e.symm
          have e4 : (flat xs).take (i * sz + off) = (flat xs).take (i * sz) ++ ((flat xs).drop (i * sz)).take off := by rw [List.take_add]
          rw [e1, e2, e4]
          conv => rhs; rw [e3]
          simp only [List.append_assoc]
        simp only [hfl2]
        have hg : ∀ q (l1 l2 l3 : List Value), l1.length = i * sz + off → l2.length = ti.size → (l1 ++ l2 ++ l3).getD q undef = if q < i * sz + off then l1.getD q undef else if q < i * sz + off + ti.size then l2.getD (q - (i * sz + off)) undef else l3.getD (q - (i * sz + off + ti.size)) undef := by
          intro q l1 l2 l3 e1 e2
          simp only [List.getD_eq_getElem?_getD]
          split
          · rw [List.getElem?_append_left (by simp; omega), List.getElem?_append_left (by omega)]
          · split
            · rw [List.getElem?_append_left (by simp; omega), List.getElem?_append_right (by omega), e1]
            · rw [List.getElem?_append_right (by simp; omega)]; simp only [List.length_append, e1, e2]
        rw [hg j _ _ _ (by simp; omega) hvl']
        by_cases c1 : j < i * sz + off
        · rw [if_pos c1, List.getElem_append_left (by simp; omega), List.getElem_append_left (by simp; omega), List.getElem_take]
          have := hr j (by omega)
          rw [List.getD_eq_getElem?_getD, List.getElem?_take_of_lt c1, ← List.getD_eq_getElem?_getD]
          exact this
        · rw [if_neg c1]
          by_cases c2 : j < i * sz + off + ti.size
          · rw [if_pos c2, List.getElem_append_left (by simp; omega), List.getElem_append_right (by simp; omega)]
            have := hsR.2 (j - (i * sz + off)) (by omega)
            rw [Array.getD_eq_getD_getElem?] at this
            rw [List.getD_eq_getElem?_getD, Array.getElem?_toList]
            have e : j - ((flat xs).take (i * sz + off)).length = j - (i * sz + off) := by simp; omega
            simp only [e]
            exact this
          · rw [if_neg c2, List.getElem_append_right (by simp; omega)]
            have e : j - ((flat xs).take (i * sz + off) ++ (st.val x).shutV.cells).length = j - (i * sz + off + ti.size) := by simp [hsl]; omega
            simp only [e, List.getElem_drop]
            rw [List.getD_eq_getElem?_getD, List.getElem?_drop, ← List.getD_eq_getElem?_getD]
            have e2 : i * sz + off + ti.size + (j - (i * sz + off + ti.size)) = j := by omega
            simp only [e2]
            exact hr j (by omega))
    refine ⟨_, _, hs0.trans hs1, .inr ⟨?_, (hr1.put (rvUndef _) he).1⟩⟩
    have hszr := run_size hti w
    simp only [execOp, hop, hbv]
    rw [add_eq rfl]
    simp only [Nat.zero_add]
    simp [Instr.storeAt, Instr.sureAddr, storeVar, hszr, hvl, hst]
end
end Go.Proofs.Ytgckhjcfcandmaa.Flat
