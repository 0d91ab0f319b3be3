/-
A call that only reads what it is handed.
-/
import Derived.Test.YtgckhjcfcandmaaFlatS
set_option linter.unusedVariables false
set_option linter.unusedSimpArgs false
namespace Go.Proofs.Ytgckhjcfcandmaa.Flat
section
variable {P : Program} {st st' : St} {a : Act} {w w' : World} {G G' : Gh} {X F : Nat → Prop} {nid : Nat} {o : Oper}

/-- The rows of a call's answer take names of ours; the rows in Gv are ours no more. -/
noncomputable def Gh.imp (G G' : Gh) (nid : Nat) (S : Cells) (Gv : Nat → Prop) : Gh :=
  { nb := G.nb, S := S, μ := G.μ
    ρ := fun i => if nid ≤ i ∧ i < nid + 8 then G'.ρ (i - nid) else G.ρ i
    lim := fun i => if nid ≤ i ∧ i < nid + 8 then G'.lim (i - nid) else G.lim i
    al := fun i => (nid ≤ i ∧ i < nid + 8 ∧ G'.al (i - nid)) ∨ (¬ (nid ≤ i ∧ i < nid + 8) ∧ G.al i ∧ ¬ Gv i) }

theorem noref_own {id : Nat} {fz : Bool} {e sz : Nat} {xs : List AV} (h : noref (.own id fz e sz xs) = true) : ∀ y ∈ flat xs, isScal y = true := by
  intro y hy
  simp only [noref, AV.any, isRef, Bool.not_not] at h
  obtain ⟨x, hx, hy⟩ := List.mem_flatMap.1 hy
  exact List.all_eq_true.1 (List.all_eq_true.1 h x hx) y hy

/-- What comes back, under names of ours. -/
theorem RV.imp {S : Cells} {Gv : Nat → Prop} {v : AV} {x : Value} (h : RV w G' v x) (hS : (∀ fl b o, G'.S fl b o → S fl b o) ∨ noref v = true) (hsm : ∀ id ∈ v.rows, id < 8) : RV w (G.imp G' nid S Gv) (import_ nid v) x := by
  have hss : ∀ (cs : List AV) (j : Nat) (h : j < cs.length), ∀ id ∈ cs[j].rows, id ∈ AV.rowss cs := by
    intro cs
    induction cs with
    | nil => intro j hj; simp at hj
    | cons c cs ih =>
      intro j hj id hm
      simp only [AV.rowss, List.mem_append]
      cases j with
      | zero => exact .inl (by simpa using hm)
      | succ j => exact .inr (ih j (by simpa using hj) id (by simpa using hm))
  unfold import_
  induction h with
  | ro h =>
    rw [h.mapO_eq]
    rcases hS with hS | hn
    · exact .ro (h.mono hS (fun _ _ _ _ => rfl))
    · exact .ro (noref_ro h hn _ _)
  | nils => exact .nils
  | own id fz e sz xs hk =>
    have hid : id < 8 := hsm id (by simp [AV.rows])
    obtain ⟨h1, h2, h3, h4, inner, ho, hr⟩ := hk
    have hin : nid ≤ nid + id ∧ nid + id < nid + 8 := ⟨by omega, by omega⟩
    have e1 : (G.imp G' nid S Gv).ρ (nid + id) = G'.ρ id := by simp only [Gh.imp, if_pos hin, Nat.add_sub_cancel_left]
    have e2 : (G.imp G' nid S Gv).lim (nid + id) = G'.lim id := by simp only [Gh.imp, if_pos hin, Nat.add_sub_cancel_left]
    rw [← e1]
    refine .own _ _ _ _ _ ⟨.inl ⟨hin.1, hin.2, by rw [Nat.add_sub_cancel_left]; exact h1⟩, by rw [e2]; exact h2, h3, h4, inner, by rw [e1]; exact ho, fun j hj => ?_⟩
    rcases hS with hS | hn
    · exact (hr j hj).mono hS (fun _ _ _ _ => rfl)
    · exact scal_ro (hr j hj) (noref_own hn _ (List.getElem_mem _))
  | ptr => exact rvUndef _
  | eptr => exact rvUndef _
  | agg cs vs hl hr ih =>
    rw [AV.mapO, AV.mapOs_eq]
    exact .agg _ _ (by simpa using hl) fun j hj => by
      rw [getD_map_lt]
      exact ih j (by simpa using hj) (hS.imp id fun hn => noref_agg hn j (by simpa using hj)) (fun id hm => hsm id (hss cs j (by simpa using hj) id hm))
  | tup cs vs hl hr ih =>
    rw [AV.mapO, AV.mapOs_eq]
    exact .tup _ _ (by simpa using hl) fun j hj => by
      rw [getD_map_lt]
      exact ih j (by simpa using hj) (hS.imp id fun hn => noref_tup hn j (by simpa using hj)) (fun id hm => hsm id (hss cs j (by simpa using hj) id hm))
  | clo n cs vs hl hr ih =>
    rw [AV.mapO, AV.mapOs_eq]
    exact .clo _ _ _ (by simpa using hl) fun j hj => by
      rw [getD_map_lt]
      exact ih j (by simpa using hj) (hS.imp id fun hn => noref_clo hn j (by simpa using hj)) (fun id hm => hsm id (hss cs j (by simpa using hj) id hm))

theorem small_ok {v : AV} (h : small v = true) : ∀ id ∈ v.rows, id < 8 := fun id hid => of_decide_eq_true (List.all_eq_true.1 h id hid)

/-- The invariant behind a call. X0: the blocks that were given; hb: io variables are still the callee's. -/
theorem Inv.imp {X0 : Nat → Prop} {G0 : Gh} {S : Cells} {Gv : Nat → Prop} (hi : Inv w G X) (hX : ∀ b, w.heap.size ≤ b → X b) (hX0 : ∀ b, X0 b → X b) (hF : ∀ i, nid ≤ i → i < nid + 8 → ¬ G.al i ∧ G.μ i = none)
    (hi' : Inv w' G' (fun b => X0 b ∨ w.heap.size ≤ b)) (hstep : Step false w w' G0 G' (fun b => X0 b ∨ w.heap.size ≤ b)) (hnb : G0.nb = G.nb)
    (hrow : ∀ i g, G.al i → ¬ Gv i → (G.ρ i).ownBlock = some g → ¬ X0 g) (hbox : ∀ i b, G.μ i = some b → X0 b → ∃ j, G'.μ j = some b)
    (hSG : ∀ fl b o, S fl b o → G'.S fl b o) (hSn : ∀ fl b o, S fl b o → G.S fl b o ∨ X0 b ∨ w.heap.size ≤ b) : Inv w' (G.imp G' nid S Gv) X := by
  have hsz := hstep.size
  have hρi : ∀ {i}, nid ≤ i ∧ i < nid + 8 → (G.imp G' nid S Gv).ρ i = G'.ρ (i - nid) := fun h => by simp only [Gh.imp, if_pos h]
  have hρo : ∀ {i}, ¬ (nid ≤ i ∧ i < nid + 8) → (G.imp G' nid S Gv).ρ i = G.ρ i := fun h => by simp only [Gh.imp, if_neg h]
  have hli : ∀ {i}, nid ≤ i ∧ i < nid + 8 → (G.imp G' nid S Gv).lim i = G'.lim (i - nid) := fun h => by simp only [Gh.imp, if_pos h]
  have hlo : ∀ {i}, ¬ (nid ≤ i ∧ i < nid + 8) → (G.imp G' nid S Gv).lim i = G.lim i := fun h => by simp only [Gh.imp, if_neg h]
  have hnb' : G'.nb = G.nb := hstep.nb.trans hnb
  have hold : ∀ i g, G.al i → ¬ Gv i → (G.ρ i).ownBlock = some g → ∀ j, G'.al j → (G'.ρ j).ownBlock ≠ some g := by
    intro i g h1 h2 h3 j h4 h5
    rcases (hi'.row j g h4 h5).1 with h6 | h6
    · exact hrow i g h1 h2 h3 h6
    · have := (hi.row i g h1 h3).2.1; omega
  exact {
    nb := Nat.le_trans hi.nb hsz
    row := fun i g hal hg => by
      rcases hal with ⟨h1, h2, h3⟩ | ⟨h1, h2, h3⟩
      · rw [hρi ⟨h1, h2⟩] at hg
        obtain ⟨h4, h5, h6⟩ := hi'.row _ g h3 hg
        exact ⟨h4.elim (hX0 g) (hX g), h5, by show G.nb ≤ g; rw [← hnb']; exact h6⟩
      · rw [hρo h1] at hg
        obtain ⟨h4, h5, h6⟩ := hi.row i g h2 hg
        exact ⟨h4, Nat.lt_of_lt_of_le h5 hsz, h6⟩
    box := fun i b hb => by
      obtain ⟨h4, h5, h6⟩ := hi.box i b hb
      exact ⟨h4, Nat.lt_of_lt_of_le h5 hsz, h6⟩
    rows := fun i j g hai haj hij hg hg' => by
      rcases hai with ⟨h1, h2, h3⟩ | ⟨h1, h2, h3⟩ <;> rcases haj with ⟨h4, h5, h6⟩ | ⟨h4, h5, h6⟩
      · rw [hρi ⟨h1, h2⟩] at hg; rw [hρi ⟨h4, h5⟩] at hg'
        exact hi'.rows _ _ g h3 h6 (by omega) hg hg'
      · rw [hρi ⟨h1, h2⟩] at hg; rw [hρo h4] at hg'
        exact hold j g h5 h6 hg' _ h3 hg
      · rw [hρo h1] at hg; rw [hρi ⟨h4, h5⟩] at hg'
        exact hold i g h2 h3 hg _ h6 hg'
      · rw [hρo h1] at hg; rw [hρo h4] at hg'
        exact hi.rows i j g h2 h5 hij hg hg'
    boxes := hi.boxes
    rowBox := fun i j b hai hg hb => by
      rcases hai with ⟨h1, h2, h3⟩ | ⟨h1, h2, h3⟩
      · rw [hρi ⟨h1, h2⟩] at hg
        rcases (hi'.row _ b h3 hg).1 with h6 | h6
        · obtain ⟨q, hq⟩ := hbox j b hb h6
          exact hi'.rowBox _ q b h3 hg hq
        · have := (hi.box j b hb).2.1; omega
      · rw [hρo h1] at hg; exact hi.rowBox i j b h2 hg hb
    lt := fun fl b o hs => hi'.lt fl b o (hSG fl b o hs)
    old := fun b o hs => by have := hi'.old b o (hSG false b o hs); rw [hnb'] at this; exact this
    new := fun b o hs => by have := hi'.new b o (hSG true b o hs); rw [hnb'] at this; exact this
    sBox := fun fl b o i hs hb => by
      rcases hSn fl b o hs with h1 | h1 | h1
      · exact hi.sBox fl b o i h1 hb
      · obtain ⟨q, hq⟩ := hbox i b hb h1
        exact hi'.sBox fl b o q (hSG fl b o hs) hq
      · have := (hi.box i b hb).2.1; omega
    sRow := fun fl b o i hs hai hg => by
      rcases hai with ⟨h1, h2, h3⟩ | ⟨h1, h2, h3⟩
      · rw [hρi ⟨h1, h2⟩] at hg
        rw [hli ⟨h1, h2⟩]
        exact hi'.sRow fl b o _ (hSG fl b o hs) h3 hg
      · rw [hρo h1] at hg
        rw [hlo h1]
        rcases hSn fl b o hs with h4 | h4 | h4
        · exact hi.sRow fl b o i h4 h2 hg
        · exact absurd h4 (hrow i b h2 h3 hg)
        · have := (hi.row i b h2 hg).2.1; omega }

/-- A call that only reads what it is handed. -/
theorem evRo_ok {k : Bool} {Φ : Phi} {md : List Mode} {n : Nat} {args : List AV} {cargs : Array Value} {v : AV} {ids : List Nat} (h : Rel st a w G X F) (hX : ∀ b, w.heap.size ≤ b → X b) (hF : ∀ i, nid ≤ i → i < nid + 8 → F i)
    (hΦ : ∀ args ret fin, Φ n args [] = some (ret, fin) → CallOK false P md n args [] ret fin) (hl : cargs.size = args.length) (hargs : ∀ j (h : j < args.length), RV w G args[j] (cargs.getD j undef))
    (he : evRo Φ st.box nid n args = some (v, ids)) (hp : (st.freeze ids).put o.dst v = some st') :
    Calls P n cargs w fun e w' => ∃ x G', e = .returned x ∧ Step k w w' G G' X ∧ Rel st' (a.put o.dst x) w' G' X (fun i => F i ∧ ¬ (nid ≤ i ∧ i < nid + 8)) := by
  have hFn : ∀ i, nid ≤ i → i < nid + 8 → ¬ G.al i ∧ G.μ i = none := fun i h1 h2 => h.free i (hF i h1 h2)
  unfold evRo at he
  obtain ⟨⟨ret, fin⟩, hret, he⟩ := Option.bind_eq_some_iff.1 he
  simp only at he
  cases fin with
  | cons _ _ => simp at he
  | nil =>
    simp only at he
    split at he
    · rename_i hsm
      have hsm' := small_ok hsm
      -- the state behind the call, once S is chosen
      have fin : ∀ (G1 : Gh) (S : Cells) (st1 : St) (w' : World) (G' : Gh) (x : Value), Rel st1 a w G1 X F → Step false w w G G1 X → (∀ i, nid ≤ i → i < nid + 8 → ¬ G1.al i ∧ G1.μ i = none) →
          Step false w w' (Gh.lent G.nb S) G' (fun b => False ∨ w.heap.size ≤ b) → Inv w' G' (fun b => False ∨ w.heap.size ≤ b) → RV w' G' ret x → G1.nb = G.nb → (∀ fl b o, G1.S fl b o → S fl b o) →
          ((∀ fl b o, S fl b o → G1.S fl b o) ∨ noref ret = true) → st1.put o.dst (import_ nid ret) = some st' →
          ∃ G2, Step k w w' G G2 X ∧ Rel st' (a.put o.dst x) w' G2 X (fun i => F i ∧ ¬ (nid ≤ i ∧ i < nid + 8)) := by
        intro G1 S st1 w' G' x hr1 hs1 hF1 hstep hinv' hrv hnb hS1 hor hput
        have hblk : ∀ b, b < w.heap.size → w'.heap[b]? = w.heap[b]? := fun b hb => hstep.block b hb (by simp; omega)
        have main : ∀ (S2 : Cells), (∀ fl b o, G1.S fl b o → S2 fl b o) → (∀ fl b o, S2 fl b o → G'.S fl b o) → (∀ fl b o, S2 fl b o → G1.S fl b o ∨ (fl = true ∧ w.heap.size ≤ b)) → ((∀ fl b o, G'.S fl b o → S2 fl b o) ∨ noref ret = true) →
            ∃ G2, Step k w w' G G2 X ∧ Rel st' (a.put o.dst x) w' G2 X (fun i => F i ∧ ¬ (nid ≤ i ∧ i < nid + 8)) := by
          intro S2 h1 h2 h3 h4
          have hcell : ∀ fl b o, G1.S fl b o → w'.cell? ⟨b, o, none⟩ = w.cell? ⟨b, o, none⟩ := fun fl b o hs => World.cell?_of_block (hblk b (hr1.inv.lt fl b o hs))
          have hinv2 : Inv w' (G1.imp G' nid S2 (fun _ => False)) X := hr1.inv.imp (X0 := fun _ => False) (G0 := Gh.lent G.nb S) hX (fun _ h => h.elim) hF1 hinv' hstep (by rw [hnb]; rfl) (fun _ _ _ _ _ h => h) (fun _ _ _ h => h.elim) h2
            (fun fl b o hs => (h3 fl b o hs).imp id fun h => .inr h.2)
          have hkeep : Keep w w' G1 (G1.imp G' nid S2 (fun _ => False)) (fun _ => False) := {
            S := h1
            cell := hcell
            row := fun i _ hal => by
              have hne : ¬ (nid ≤ i ∧ i < nid + 8) := fun h => (hF1 i h.1 h.2).1 hal
              exact ⟨.inr ⟨hne, hal, fun h => h⟩, by simp only [Gh.imp, if_neg hne], by simp only [Gh.imp, if_neg hne], fun g hg => hblk g (hr1.inv.row i g hal hg).2.1⟩
            box := fun _ _ hb => hb }
          have hr2 : Rel st1 a w' (G1.imp G' nid S2 (fun _ => False)) X (fun i => F i ∧ ¬ (nid ≤ i ∧ i < nid + 8)) := hr1.keep hkeep (fun i b hb => hblk b (hr1.inv.box i b hb).2.1) hinv2 (fun i hi => by
            obtain ⟨h5, h6⟩ := hr1.free i hi.1
            refine ⟨fun hal => ?_, h6⟩
            rcases hal with ⟨h7, h8, _⟩ | ⟨_, h7, _⟩
            · exact hi.2 ⟨h7, h8⟩
            · exact h5 h7)
          have hx := hrv.imp (G := G1) (nid := nid) (S := S2) (Gv := fun _ => False) h4 hsm'
          have hs2 : Step false w w' G1 (G1.imp G' nid S2 (fun _ => False)) X := ⟨hstep.os, hstep.tape, hstep.output, hstep.size, fun b hb hx => hblk b hb, rfl, fun fl b o _ hs => h1 fl b o hs, fun fl b o _ hs => hcell fl b o hs, fun fl b o hs => (h3 fl b o hs).imp id fun h => ⟨h.1, .inr h.2⟩⟩
          exact ⟨_, Step.weaken (hs1.trans hs2), (hr2.put hx hput).1⟩
        rcases hor with hor | hn
        · refine main G'.S (fun fl b o hs => hstep.S fl b o (.inl rfl) (hS1 fl b o hs)) (fun _ _ _ hs => hs) (fun fl b o hs => ?_) (.inl fun _ _ _ hs => hs)
          rcases hstep.newS fl b o hs with h1 | ⟨h1, h2⟩
          · exact .inl (hor fl b o h1)
          · exact .inr ⟨h1, h2.elim (fun h => h.elim (fun h => h.elim) id) id⟩
        · exact main G1.S (fun _ _ _ hs => hs) (fun fl b o hs => hstep.S fl b o (.inl rfl) (hS1 fl b o hs)) (fun _ _ _ hs => .inl hs) (.inr hn)
      -- the call
      have call : ∀ (G1 : Gh) (S : Cells) (st1 : St), Rel st1 a w G1 X F → Step false w w G G1 X → (∀ i, nid ≤ i → i < nid + 8 → ¬ G1.al i ∧ G1.μ i = none) → G1.nb = G.nb → (∀ fl b o, G1.S fl b o → S fl b o) →
          ((∀ fl b o, S fl b o → G1.S fl b o) ∨ noref ret = true) → st1.put o.dst (import_ nid ret) = some st' →
          (∀ fl b o, S fl b o → b < w.heap.size ∧ (fl = false → b < G.nb) ∧ (fl = true → G.nb ≤ b ∧ ∃ cur e, w.heap[b]? = some (.cells cur e (0, 0)))) →
          (∀ j (h : j < args.length), RO w S (lend st.box 4 args[j]) (cargs.getD j undef)) →
          Calls P n cargs w fun e w' => ∃ x G', e = .returned x ∧ Step k w w' G G' X ∧ Rel st' (a.put o.dst x) w' G' X (fun i => F i ∧ ¬ (nid ≤ i ∧ i < nid + 8)) := by
        intro G1 S st1 hr1 hs1 hF1 hnb hS1 hor hput hS hro
        have hc := hΦ _ _ _ hret w (Gh.lent G.nb S) (fun _ => False) cargs (by simpa using hl) (fun j hj => by
            rw [List.getElem_map]; exact .ro (hro j (by simpa using hj)))
          (Inv.lent h.inv.nb hS) (fun id cs hcs => by simp [numbered, look] at hcs) (fun _ _ => ⟨fun h => h, rfl⟩) (fun _ _ => rfl)
        refine hc.mono ?_
        rintro e w' ⟨x, G', rfl, hstep, hinv', hrv, _⟩
        obtain ⟨G2, h1, h2⟩ := fin G1 S st1 w' G' x hr1 hs1 hF1 hstep hinv' hrv hnb hS1 hor hput
        exact ⟨x, G2, rfl, h1, h2⟩
      split at he
      · rename_i hn
        obtain ⟨rfl, rfl⟩ := Prod.mk.inj (Option.some.inj he)
        exact call G (G.full w) st h (Step.refl _ _ _ _) hFn rfl (fun _ _ _ hs => .inl hs) (.inr hn) (by simpa [St.freeze] using hp) (fun fl b o hs => h.inv.full hs) (fun j hj => (hargs j hj).lentRO h.box 4)
      · split at he
        · simp at he
        · rename_i hnp
          obtain ⟨rfl, rfl⟩ := Prod.mk.inj (Option.some.inj he)
          have hids : ∀ id ∈ args.flatMap AV.rows, ∃ fz e sz xs, RowOK w G id fz e sz xs := by
            intro id hid
            obtain ⟨v, hv, hm⟩ := List.mem_flatMap.1 hid
            obtain ⟨j, hj, rfl⟩ := List.getElem_of_mem hv
            exact (hargs j hj).rows_al id hm
          obtain ⟨hr1, hs1⟩ := h.freeze hids
          refine call (G.freeze w (args.flatMap AV.rows)) (G.freeze w (args.flatMap AV.rows)).S _ hr1 hs1 hFn rfl (fun _ _ _ hs => hs) (.inl fun _ _ _ hs => hs) hp (fun fl b o hs => ⟨hr1.inv.lt fl b o hs, fun e => hr1.inv.old b o (e ▸ hs), fun e => hr1.inv.new b o (e ▸ hs)⟩) (fun j hj => ?_)
          have hnp' : args[j].any isPtr = false := by
            cases hb : args[j].any isPtr with
            | false => rfl
            | true => exact absurd (List.any_eq_true.2 ⟨_, List.getElem_mem hj, hb⟩) hnp
          rw [(hargs j hj).lentSeal hnp']
          exact (hargs j hj).shutV fun id hid => List.mem_flatMap.2 ⟨_, List.getElem_mem hj, hid⟩
    · simp at he
end
end Go.Proofs.Ytgckhjcfcandmaa.Flat
