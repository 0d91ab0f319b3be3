/-
Rows: literals, make, append, elements written.
-/
import Derived.Test.YtgckhjcfcandmaaFlatN
set_option linter.unusedVariables false
set_option linter.unusedSimpArgs false
namespace Go.Proofs.Ytgckhjcfcandmaa.Flat
section
variable {P : Program} {st st' : St} {a : Act} {w : World} {G : Gh} {X F : Nat → Prop} {nid : Nat} {o : Oper}

/-! ### append -/
theorem rowOf_ok {x : AV} {v : Value} {ys : List AV} {size : Nat} (hx : RV w G x v) (h : rowOf x = some ys) (hsz : ∀ y ∈ ys, y.cells.length = size) :
    ∃ (A : Option Addr) (c : Nat) (news : List Value), v = .slice A ys.length c ∧ (A = none → ys.length = 0) ∧ (A = none → c = 0) ∧ news.length = ys.length * size ∧ (∀ ad, A = some ad → ∀ j u, news[j]? = some u → w.cell? (ad.add j) = some u) ∧
      (∀ u ∈ news, u.oneCell' = true) ∧ (∀ y ∈ flat ys, y.isCell = true) ∧ ∀ j (hj : j < (flat ys).length), RO w G.S (flat ys)[j] (news.getD j undef) := by
  have nil_case : ∀ {A : Option Addr} {c : Nat}, (A = none → c = 0) → ys = [] → v = .slice A 0 c → ∃ (A : Option Addr) (c : Nat) (news : List Value), v = .slice A ys.length c ∧ (A = none → ys.length = 0) ∧ (A = none → c = 0) ∧ news.length = ys.length * size ∧ (∀ ad, A = some ad → ∀ j u, news[j]? = some u → w.cell? (ad.add j) = some u) ∧
      (∀ u ∈ news, u.oneCell' = true) ∧ (∀ y ∈ flat ys, y.isCell = true) ∧ ∀ j (hj : j < (flat ys).length), RO w G.S (flat ys)[j] (news.getD j undef) := by
    intro A c hA hy hv
    subst hy
    exact ⟨A, c, [], hv, fun _ => rfl, hA, by simp, fun _ _ j u h => by simp at h, by simp, by simp [flat], fun j hj => by simp [flat] at hj⟩
  cases x with
  | nils =>
    obtain rfl : [] = ys := by simpa [rowOf] using h
    exact nil_case (fun _ => rfl) rfl hx.nils_inv
  | sl fl xs =>
    obtain rfl : xs = ys := by simpa [rowOf] using h
    cases hx with
    | ro hr =>
      cases hr with
      | slNil _ _ A c hA => exact nil_case hA rfl rfl
      | sl _ _ _ ad c sz cv hne hc hsp hsz' hcell hS hr =>
        obtain ⟨y, hy⟩ := List.exists_mem_of_ne_nil xs hne
        obtain rfl : sz = size := by rw [← hsz' y hy, hsz y hy]
        have hfl : (flat xs).length = xs.length * sz := flat_length hsz'
        refine ⟨some ad, c, (List.range (xs.length * sz)).map cv, rfl, by simp, by simp, by simp, fun ad' e j u hj => ?_, fun u hu => ?_, hcell, fun j hj => ?_⟩
        · obtain rfl : ad = ad' := by simpa using e
          simp only [List.getElem?_map, Option.map_eq_some_iff] at hj
          obtain ⟨k, hk, rfl⟩ := hj
          obtain ⟨h1, h2⟩ := List.getElem?_eq_some_iff.1 hk
          simp at h1 h2
          subst h2
          exact (hS j h1).2
        · obtain ⟨k, hk, rfl⟩ := List.mem_map.1 hu
          have hk' : k < (flat xs).length := by rw [hfl]; simpa using hk
          exact (hr k hk').one (hcell _ (List.getElem_mem _))
        · have : ((List.range (xs.length * sz)).map cv).getD j undef = cv j := by
            have hj' : j < xs.length * sz := by rw [← hfl]; exact hj
            simp [List.getD_eq_getElem?_getD, hj']
          rw [this]
          exact (hr j hj).mono sub_le (fun _ _ _ _ => rfl)
  | own id fz e sz xs =>
    obtain rfl : xs = ys := by simpa [rowOf] using h
    obtain ⟨rfl, hk⟩ := hx.own_inv
    obtain ⟨hal, hlim, hsz', hcell, inner, ho, hr⟩ := hk
    rcases ho.2 with ⟨h5, h6⟩ | ⟨g, cap, cur, h5, h0, h7, h6, hm, hs, _⟩
    · obtain rfl : xs = [] := List.eq_nil_of_length_eq_zero h6
      exact nil_case (fun _ => rfl) rfl h5
    · by_cases hne : xs = []
      · subst hne
        exact nil_case (A := some ⟨g, 0, none⟩) (fun e => by simp at e) rfl h5
      · obtain ⟨y, hy⟩ := List.exists_mem_of_ne_nil xs hne
        obtain rfl : sz = size := by rw [← hsz' y hy, hsz y hy]
        have hfl : (flat xs).length = xs.length * sz := flat_length hsz'
        refine ⟨some ⟨g, 0, none⟩, cap, inner, h5, by simp, by simp, ho.1, fun ad' e j u hj => ?_, fun u hu => ?_, hcell, hr⟩
        · obtain rfl : (⟨g, 0, none⟩ : Addr) = ad' := by simpa using e
          exact ho.cells (g := g) (by rw [h5]; rfl) j u hj
        · obtain ⟨k, hk, rfl⟩ := List.getElem_of_mem hu
          have hk' : k < (flat xs).length := by rw [hfl, ← ho.1]; exact hk
          have := (hr k hk').one (hcell _ (List.getElem_mem _))
          rwa [List.getD_eq_getElem?_getD, List.getElem?_eq_getElem hk] at this
  | _ => simp [rowOf] at h

theorem zeroOK_some {te : TI} (h : zeroOK te = true) : ∃ z, te.zero = some z ∧ z.cells.size = te.size := by
  unfold zeroOK at h
  split at h
  · rename_i z hz; exact ⟨z, hz, of_decide_eq_true h⟩
  · simp at h

theorem evAppend_ok {t u : Nat} {s x : Operand} {as : Array Operand} {ts : Array TypeId} (h : Rel st a w G X F) (hX : ∀ b, w.heap.size ≤ b → X b) (hF : F nid)
    (hop : o.op = .call { callee := .builtin .append, args := as, argTypes := ts }) (has : as.toList = [s, x]) (hts : ts.toList = [t, u])
    (he : evAppend P t u (st.val s) (st.val x) nid o.dst st = some st') : Done false P o a w G X (fun i => F i ∧ i ≠ nid) st' := by
  unfold evAppend at he
  split at he
  · rename_i ht
    obtain ⟨hst, rfl⟩ := ht
    obtain ⟨ti, hti, he⟩ := Option.bind_eq_some_iff.1 he
    obtain ⟨te, hte, he⟩ := Option.bind_eq_some_iff.1 he
    obtain ⟨ys, hys, he⟩ := Option.bind_eq_some_iff.1 he
    have hu := tagOf_slice (of_decide_eq_true hst) hti
    split at he
    · rename_i hc
      obtain ⟨hc1, hc2, hc3⟩ := hc
      obtain ⟨z, hz, hzs0⟩ := zeroOK_some hc3
      have hsz : ∀ y ∈ ys, y.cells.length = te.size := fun y hy => by simpa using List.all_eq_true.1 hc1 y hy
      obtain ⟨A, c, news, hv, hA, hA0, hnl, hncell, hnone, hncells, hnr⟩ := rowOf_ok (h.sees.val x) hys hsz
      obtain ⟨ie, de, hie, hde, rfl⟩ := tiOf_some hte
      simp only at hz hc2 hsz hnl he
      obtain rfl : as = #[s, x] := by cases as; simpa using has
      obtain rfl : ts = #[u, u] := by cases ts; simpa using hts
      have hrun : ∀ {v' w'}, (Builtin.append_ #[u, u] o.type #[a.eval s, a.eval x]).run P w = .ok v' w' → (execOp a.eval o).run P w = .ok (.value v') w' := by
        intro v' w' hr
        have hb : execOp a.eval o = (do let v ← Builtin.append_ #[u, u] o.type (#[s, x].map a.eval); pure (Next.value v)) := by
          obtain ⟨dst, op, ty, pos, after, guard⟩ := o
          simp only at hop
          subst hop
          rfl
        rw [hb]
        simp only [List.map_toArray, List.map_cons, List.map_nil, Sem.run_bind, hr, Result.andThen_ok]
        rfl
      have hzs : z.cells.size = ie.size := hzs0
      cases hs : st.val s with
      | nils =>
        rw [hs] at he
        simp only at he
        split at he
        · rename_i hb
          have hsv := h.sees.val s
          rw [hs] at hsv
          have e1 := hsv.nils_inv
          have hown : w.ownsRow 0 ti.elem ie.size (.slice none 0 0) 0 [] := World.ownsRow_nil w 0 ti.elem ie.size
          obtain ⟨v', w', hr, ho', h1, h2, h3, h4, h5, h6, h7, h8⟩ := append_any (P := P) (w := w) (t := u) (ty := o.type) (e := ti.elem) (i := ie) (z := z) hu hie hz hzs hc2 hown A ys.length c news hA hA0 hnl hncell hnone (by simp only [maxLen]; omega) (by rw [Nat.zero_add]; omega)
          rw [← e1, ← hv] at hr
          have hcell : ∀ fl b o, G.S fl b o → w'.cell? ⟨b, o, none⟩ = w.cell? ⟨b, o, none⟩ := fun fl b o hs => World.cell?_of_block (h5 b (h.inv.lt fl b o hs) (by simp [Value.ownBlock]))
          simp only [Nat.zero_add, List.nil_append] at ho'
          by_cases hy : ys = []
          · subst hy
            have e2 := h8 rfl rfl
            subst e2
            obtain ⟨hr1, hs1, hx1⟩ := h.newRow (w' := w') (nid := nid) (dead := []) (v := .slice none 0 0) (L := 0) (fz := false) (e := ti.elem) (sz := ie.size) (xs := []) hX hF (by simp) h1 h2 h3 h4 (fun k hk _ => h5 k hk (by simp [Value.ownBlock])) hcell (by simp) (fun g hg => by simp [Value.ownBlock] at hg) (by simp) (by simp) (by simp [flat]) (inner := news) ho' (fun j hj => by simp [flat] at hj)
            exact done_value hs1 hr1 .nils (hrun hr) he
          · obtain ⟨hr1, hs1, hx1⟩ := h.newRow (w' := w') (nid := nid) (dead := []) (v := v') (L := 0) (fz := false) (e := ti.elem) (sz := ie.size) (xs := ys) hX hF (by simp) h1 h2 h3 h4 (fun k hk _ => h5 k hk (by simp [Value.ownBlock])) hcell (by simp)
              (fun g hg => by
                rcases h7 with h7 | h7
                · rw [h7] at hg; simp [Value.ownBlock] at hg
                · have hlt := (ho'.lt g hg).2
                  rw [h7] at hg
                  obtain rfl : w.heap.size = g := by simpa using hg
                  exact .inl ⟨Nat.le_refl _, hlt⟩) (by simp) hsz hncells ho' hnr
            have he' : (st.scrub []).put o.dst (.own nid false ti.elem ie.size ys) = some st' := by
              cases ys with
              | nil => exact absurd rfl hy
              | cons y r => exact he
            exact done_value hs1 hr1 hx1 (hrun hr) he'
        · simp at he
      | own id fz e sz xs =>
        rw [hs] at he
        simp only at he
        split at he
        · rename_i hb
          obtain ⟨rfl, rfl, hb1, hb2⟩ := hb
          have hsv := h.sees.val s
          rw [hs] at hsv
          obtain ⟨e1, hk⟩ := hsv.own_inv
          have hk' := hk
          obtain ⟨hal, hlim, hsz', hcell', inner, ho, hr⟩ := hk
          obtain ⟨v', w', hr', ho', h1, h2, h3, h4, h5, h6, h7, h8⟩ := append_any (P := P) (w := w) (t := u) (ty := o.type) (e := ti.elem) (i := ie) (z := z) hu hie hz hzs hc2 ho A ys.length c news hA hA0 hnl hncell hnone (by simp only [maxLen]; omega) (by omega)
          rw [← e1, ← hv] at hr'
          have hlim' : G.lim id ≤ xs.length * ie.size := by split at hlim <;> omega
          have hcell : ∀ fl b o, G.S fl b o → w'.cell? ⟨b, o, none⟩ = w.cell? ⟨b, o, none⟩ := by
            intro fl b o hs
            by_cases hb : (G.ρ id).ownBlock = some b
            · exact (h6 b hb).2 o (Nat.lt_of_lt_of_le (h.inv.sRow fl b o id hs hal hb) hlim')
            · exact World.cell?_of_block (h5 b (h.inv.lt fl b o hs) (fun e => hb e.symm))
          have hfx : (flat xs).length = xs.length * ie.size := flat_length hsz'
          obtain ⟨hr1, hs1, hx1⟩ := h.newRow (w' := w') (nid := nid) (dead := [id]) (v := v') (L := G.lim id) (fz := fz) (e := ti.elem) (sz := ie.size) (xs := xs ++ ys) hX hF (by simpa using hal) h1 h2 h3 h4
            (fun k hk hd => h5 k hk (fun e => hd id (by simp) e.symm)) hcell (fun i hi b hb => by obtain rfl : i = id := (by simpa using hi); obtain ⟨cur, hc⟩ := (h6 b hb).1; exact ⟨cur, _, hc⟩)
            (fun g hg => by
              rcases h7 with h7 | h7
              · exact .inr ⟨id, by simp, by rw [← h7]; exact hg, Nat.le_refl _⟩
              · have hlt := (ho'.lt g hg).2
                rw [h7] at hg
                obtain rfl : w.heap.size = g := by simpa using hg
                exact .inl ⟨Nat.le_refl _, hlt⟩)
            (by split at hlim
                · rename_i hfz; rw [if_pos hfz, List.length_append, Nat.add_mul]; omega
                · rename_i hfz; rw [if_neg hfz]; exact hlim)
            (fun x hx => (List.mem_append.1 hx).elim (hsz' x) (hsz x))
            (fun y hy => by rw [flat_append] at hy; exact (List.mem_append.1 hy).elim (hcell' y) (hncells y))
            (inner := inner ++ news) (by rw [List.length_append]; exact ho')
            (fun j hj => by
              simp only [flat_append]
              have hil : inner.length = (flat xs).length := by rw [hfx]; exact ho.1
              by_cases hjl : j < (flat xs).length
              · rw [List.getElem_append_left hjl, List.getD_eq_getElem?_getD, List.getElem?_append_left (by omega), ← List.getD_eq_getElem?_getD]
                exact hr j hjl
              · rw [List.getElem_append_right (by omega), List.getD_eq_getElem?_getD, List.getElem?_append_right (by omega), ← List.getD_eq_getElem?_getD, hil]
                exact hnr _ _)
          exact done_value hs1 hr1 hx1 (hrun hr') he
        · simp at he
      | _ => simp [hs] at he
    · simp at he
  · simp at he
end
end Go.Proofs.Ytgckhjcfcandmaa.Flat
