/-
Operations that make or write memory: the state behind them.
-/
import Derived.Test.YtgckhjcfcandmaaFlatM
set_option linter.unusedVariables false
set_option linter.unusedSimpArgs false
namespace Go.Proofs.Ytgckhjcfcandmaa.Flat

/-- What an operation comes to, calls aside. -/
def Done (k : Bool) (P : Program) (o : Oper) (a : Act) (w : World) (G : Gh) (X F' : Nat → Prop) (st' : St) : Prop :=
  ∃ w' G', Step k w w' G G' X ∧ ((∃ v, (execOp a.eval o).run P w = .ok (.value v) w' ∧ Rel st' (a.put o.dst v) w' G' X F') ∨ ((execOp a.eval o).run P w = .ok .skip w' ∧ Rel st' (a.put o.dst undef) w' G' X F'))

section
variable {P : Program} {st st' : St} {a : Act} {w : World} {G : Gh} {X F : Nat → Prop} {nid : Nat} {o : Oper}

theorem Rel.weaken {F' : Nat → Prop} (h : Rel st a w G X F) (hf : ∀ i, F' i → F i) : Rel st a w G X F' := ⟨h.size, h.defers, h.slot, h.box, h.inv, fun id hid => h.free id (hf id hid)⟩

theorem done_value {k : Bool} {F' : Nat → Prop} {w' : World} {G' : Gh} {st1 : St} {x : AV} {v : Value} (hs : Step k w w' G G' X) (hr : Rel st1 a w' G' X F') (hx : RV w' G' x v) (hrun : (execOp a.eval o).run P w = .ok (.value v) w') (hp : st1.put o.dst x = some st') :
    Done k P o a w G X F' st' := ⟨w', G', hs, .inl ⟨v, hrun, (hr.put hx hp).1⟩⟩

theorem run_newRow (e : TypeId) (cells : Array Value) (w : World) : (newRow e cells).run P w = .ok ⟨w.heap.size, 0, none⟩ (w.alloc (.cells cells e)) := by
  simp [newRow]

theorem evAlloc_ok {t : Nat} (h : Rel st a w G X F) (hX : ∀ b, w.heap.size ≤ b → X b) (hF : F nid) (hop : o.op = .alloc t) (he : evAlloc P t nid o.dst st = some st') :
    Done false P o a w G X (fun i => F i ∧ i ≠ nid) st' := by
  unfold evAlloc at he
  obtain ⟨ti, hti, he⟩ := Option.bind_eq_some_iff.1 he
  obtain ⟨z, hz, he⟩ := Option.bind_eq_some_iff.1 he
  obtain ⟨cs, hcs, he⟩ := Option.bind_eq_some_iff.1 he
  obtain ⟨h1, h2, h3⟩ := ofCells_ok (w := w) (G := G) hcs
  have hR := ofCells_RVs (w := w) (G := G) hcs
  have hone : ∀ v ∈ z.cells.toList, v.oneCell' = true := by
    intro v hv
    obtain ⟨j, hj, rfl⟩ := List.getElem_of_mem hv
    have h4 := h3 j (by omega)
    have h5 := h4.one (h2 _ (List.getElem_mem _))
    rw [List.getD_eq_getElem?_getD, List.getElem?_eq_getElem hj] at h5
    exact h5
  obtain ⟨hr, hs⟩ := h.newBox (T := t) hX hF (fun y hy => .inl (h2 y hy)) hone hR
  refine done_value hs hr (.ptr _ _ w.heap.size (by simp [Gh.addBox])) ?_ he
  have hzr := run_zero hti hz w
  simp only [execOp, hop]
  simp [Instr.alloc, hzr, newVar, run_newRow]

theorem cells_one {x : AV} {v : Value} (hx : RV w G x v) (hc : x.cells.all AV.isCell = true) : RVs w G x.cells v.cells ∧ ∀ u ∈ v.cells.toList, u.oneCell' = true := by
  have hu : x ≠ .undef := by intro e; subst e; simp [AV.cells, AV.isCell] at hc
  have hR := hx.cells hu
  refine ⟨hR, fun u hu => ?_⟩
  obtain ⟨j, hj, rfl⟩ := List.getElem_of_mem hu
  have hj' : j < x.cells.length := by rw [← hR.1]; simpa using hj
  have h4 := (hR.2 j hj').one (List.all_eq_true.1 hc _ (List.getElem_mem _))
  have hg := getD_some (xs := v.cells) (i := j) (by simpa using hj)
  rw [Array.getElem_toList]
  rw [Array.getElem?_eq_getElem (by simpa using hj)] at hg
  rw [Option.some.inj hg]
  exact h4

theorem evBox_ok {t : Nat} {x : Operand} (h : Rel st a w G X F) (hX : ∀ b, w.heap.size ≤ b → X b) (hF : F nid) (hop : o.op = .box t x) (he : evBox nid o.dst (st.val x) st = some st') :
    Done false P o a w G X (fun i => F i ∧ i ≠ nid) st' := by
  have hx := h.sees.val x
  unfold evBox at he
  split at he
  · rename_i hc
    obtain ⟨hR, hone⟩ := cells_one hx hc
    obtain ⟨hr, hs⟩ := h.newBox (T := t) hX hF (fun y hy => .inl (List.all_eq_true.1 hc y hy)) hone hR
    refine done_value hs hr (.ptr _ _ w.heap.size (by simp [Gh.addBox])) ?_ he
    simp only [execOp, hop]
    simp [Instr.box, newVar, run_newRow]
  · simp at he

/-! ### a store into a variable -/
theorem Rel.setBox (h : Rel st a w G X F) {id b : Nat} {cs cs' : List AV} {vs vs' : Array Value} {T : TypeId} (hb : st.box id = some cs) (hμ : G.μ id = some b) (hh : w.heap[b]? = some (.cells vs T (0, 0)))
    (hsz : vs'.size = vs.size) (hc : ∀ y ∈ cs', y.isCell = true ∨ y = .undef) (ho : ∀ v ∈ vs'.toList, v.oneCell' = true) (hR : RVs w G cs' vs') :
    Rel (st.setBox id cs') a (w.setRow b vs') G X F ∧ Step false w (w.setRow b vs') G G X := by
  have hi := h.inv
  have hlt := (hi.box id b hμ).2.1
  have hset : (w.setRow b vs').heap[b]? = some (.cells vs' T (0, 0)) := setRow_heap w b vs vs' T _ hh
  have hoth : ∀ k, k ≠ b → (w.setRow b vs').heap[k]? = w.heap[k]? := fun k hk => setRow_other w b k _ (fun e => hk e)
  have hsize : (w.setRow b vs').heap.size = w.heap.size := by simp
  have hcell : ∀ fl c o, G.S fl c o → (w.setRow b vs').cell? ⟨c, o, none⟩ = w.cell? ⟨c, o, none⟩ := by
    intro fl c o hs
    exact World.cell?_of_block (hoth c (fun e => hi.sBox fl c o id hs (by rw [e]; exact hμ)))
  have hk : Keep w (w.setRow b vs') G G (fun _ => False) := {
    S := fun _ _ _ hs => hs
    cell := hcell
    row := fun i _ hal => ⟨hal, rfl, rfl, fun g hg => hoth g (fun e => hi.rowBox i id b hal (by rw [← e]; exact hg) hμ)⟩
    box := fun _ _ hb => hb }
  refine ⟨⟨h.size, h.defers, fun i => hk.rv (h.slot i), fun i ds hd => ?_, ?_, h.free⟩, ?_⟩
  · simp only [St.box, St.setBox, look_cons] at hd
    split at hd
    · rename_i e
      subst e
      obtain rfl := Option.some.inj hd
      exact ⟨b, vs', T, hμ, hset, hR.1, hc, ho, fun j hj => hk.rv (hR.2 j hj)⟩
    · rename_i e
      exact (h.box i ds hd).keep hk (fun c hc => hoth c (fun e2 => e (hi.boxes i id b (by rw [← e2]; exact hc) hμ)))
  · exact {
      nb := by rw [hsize]; exact hi.nb
      row := fun i g hal hg => by rw [hsize]; exact hi.row i g hal hg
      box := fun i c hc => by rw [hsize]; exact hi.box i c hc
      rows := hi.rows
      boxes := hi.boxes
      rowBox := hi.rowBox
      lt := fun fl c o hs => by rw [hsize]; exact hi.lt fl c o hs
      old := hi.old
      new := fun c o hs => by
        obtain ⟨h1, cur, e, h2⟩ := hi.new c o hs
        exact ⟨h1, cur, e, (hoth c (fun e2 => hi.sBox _ c o id hs (by rw [e2]; exact hμ))).trans h2⟩
      sBox := hi.sBox
      sRow := hi.sRow }
  · exact ⟨rfl, rfl, rfl, by rw [hsize]; exact Nat.le_refl _, fun c _ hx => hoth c (fun e => hx (by rw [e]; exact (hi.box id b hμ).1)), rfl, fun _ _ _ _ hs => hs, fun fl c o _ hs => hcell fl c o hs, fun _ _ _ hs => .inl hs⟩

/-- Cells written over cells, as lists. -/
theorem RVs.over {cs xs : List AV} {vs us : Array Value} {off : Nat} (h : RVs w G cs vs) (hx : RVs w G xs us) (hb : off + xs.length ≤ cs.length) :
    RVs w G (cs.take off ++ xs ++ cs.drop (off + xs.length)) (vs.toList.take off ++ us.toList ++ vs.toList.drop (off + xs.length)).toArray := by
  have h1 := h.1
  have h2 := hx.1
  refine ⟨by simp [h1, h2], fun j hj => ?_⟩
  have hg : ∀ (l : List Value), l.toArray.getD j undef = l.getD j undef := by intro l; simp [Array.getD_eq_getD_getElem?, List.getD_eq_getElem?_getD]
  rw [hg, List.getD_eq_getElem?_getD]
  simp only [List.length_append, List.length_take, List.length_drop] at hj
  by_cases c1 : j < off
  · rw [List.getElem_append_left (by simp; omega), List.getElem_append_left (by simp; omega), List.getElem_take, List.getElem?_append_left (by simp; omega), List.getElem?_append_left (by simp; omega), List.getElem?_take_of_lt c1, Array.getElem?_toList, ← Array.getD_eq_getD_getElem?]
    exact h.2 _ _
  · by_cases c2 : j < off + xs.length
    · rw [List.getElem_append_left (by simp; omega), List.getElem_append_right (by simp; omega), List.getElem?_append_left (by simp; omega), List.getElem?_append_right (by simp; omega)]
      have e1 : j - (List.take off cs).length = j - off := by simp; omega
      have e2 : j - (List.take off vs.toList).length = j - off := by simp; omega
      simp only [e1, e2]
      rw [Array.getElem?_toList, ← Array.getD_eq_getD_getElem?]
      exact hx.2 _ _
    · rw [List.getElem_append_right (by simp; omega), List.getElem?_append_right (by simp; omega)]
      have e1 : j - (List.take off cs ++ xs).length = j - (off + xs.length) := by simp; omega
      have e2 : j - (List.take off vs.toList ++ us.toList).length = j - (off + xs.length) := by simp; omega
      simp only [e1, e2, List.getElem_drop, List.getElem?_drop]
      have e3 : off + xs.length + (j - (off + xs.length)) = j := by omega
      simp only [e3]
      rw [Array.getElem?_toList, ← Array.getD_eq_getD_getElem?]
      exact h.2 _ _

theorem evStoreBox_ok {t id off : Nat} {p x : Operand} {ti : TI} {cs : List AV} (h : Rel st a w G X F) (hop : o.op = .store t p x) (hti : tiOf P t = some ti) (hp : st.val p = .ptr id off) (hb : st.box id = some cs)
    (hl : (st.val x).cells.length = ti.size) (hc : (st.val x).cells.all AV.isCell = true) (hfit : off + ti.size ≤ cs.length)
    (he : (st.setBox id (cs.take off ++ (st.val x).cells ++ cs.drop (off + ti.size))).put o.dst .undef = some st') :
    Done false P o a w G X F st' := by
  have hpv := h.sees.val p
  rw [hp] at hpv
  obtain ⟨b, hbv, hμ⟩ : ∃ b, a.eval p = .pointer (some ⟨b, off, none⟩) ∧ G.μ id = some b := by
    generalize a.eval p = v at hpv
    cases hpv with
    | ro hr => cases hr
    | ptr _ _ b hμ => exact ⟨b, rfl, hμ⟩
  obtain ⟨hR, hone⟩ := cells_one (h.sees.val x) hc
  obtain ⟨b', vs, T, h1, h2, h3, h4, h5, h6⟩ := h.box id cs hb
  obtain rfl : b = b' := by rw [hμ] at h1; simpa using h1
  have hover := RVs.over ⟨h3, h6⟩ hR (by rw [hl]; exact hfit)
  rw [hl] at hover
  have hvl : (a.eval x).cells.size = ti.size := by rw [hR.1, hl]
  obtain ⟨hr, hs⟩ := h.setBox hb hμ h2 (by simp [h3, hvl]; omega) (fun y hy => by
      simp only [List.mem_append] at hy
      rcases hy with (hy | hy) | hy
      · exact h4 y (List.mem_of_mem_take hy)
      · exact .inl (List.all_eq_true.1 hc y hy)
      · exact h4 y (List.mem_of_mem_drop hy)) (fun v hv => by
      simp only [List.mem_append] at hv
      rcases hv with (hv | hv) | hv
      · exact h5 v (List.mem_of_mem_take hv)
      · exact hone v hv
      · exact h5 v (List.mem_of_mem_drop hv)) hover
  refine ⟨_, G, hs, .inr ⟨?_, (hr.put (rvUndef _) he).1⟩⟩
  have hst := run_storeCells_at P b off T (a.eval x).cells.toList 0 vs w h2 (by simp [h3, hvl]; omega) hone
  simp only [Nat.add_zero, Array.length_toList, hvl] at hst
  have hsz := run_size hti w
  simp only [execOp, hop, hbv]
  simp [Instr.storeAt, Instr.sureAddr, storeVar, hsz, hvl, hst]
end
end Go.Proofs.Ytgckhjcfcandmaa.Flat
