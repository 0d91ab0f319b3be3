/-
Calls: what is handed on to be read, and what comes back.
-/
import Derived.Test.YtogjbacgkcodmaaFlatM2
import Derived.Orders
set_option linter.unusedVariables false
set_option linter.unusedSimpArgs false
namespace Go.Proofs.Ytogjbacgkcodmaa.Flat

/-- What a call comes to. X0: the blocks of the rows and variables that are handed on. -/
def CallOK (k : Bool) (P : Program) (md : List Mode) (f : Nat) (args : List AV) (ios : List (List AV)) (ret : AV) (fin : List (List AV)) : Prop :=
  ∀ (w : World) (G : Gh) (X0 : Nat → Prop) (cargs : Array Value), cargs.size = args.length → (∀ j (h : j < args.length), RV w G args[j] (cargs.getD j undef)) →
    Inv w G (fun b => X0 b ∨ w.heap.size ≤ b) → (∀ id cs, look id (numbered 0 ios) = some cs → BoxOK w G id cs) → (∀ id, 16 ≤ id → ¬ G.al id ∧ G.μ id = none) →
    (∀ id, ios.length ≤ id → G.μ id = none) →
    Calls P f cargs w fun e w' => ∃ v G', e = .returned v ∧ Step k w w' G G' (fun b => X0 b ∨ w.heap.size ≤ b) ∧ Inv w' G' (fun b => X0 b ∨ w.heap.size ≤ b) ∧ RV w' G' ret v ∧
      (∀ i, i < ios.length → G'.μ i = G.μ i) ∧
      (mutSlots 0 md = [] → fin.length = ios.length ∧ ∀ i (h : i < fin.length), BoxOK w' G' i fin[i]) ∧
      (mutSlots 0 md ≠ [] → fin.length = (mutSlots 0 md).length ∧ ios = [] ∧ ∀ i (h : i < fin.length), ∃ x, fin[i] = [x] ∧ RV w' G' x (cargs.getD ((mutSlots 0 md).getD i 0) undef))

section
variable {P : Program} {st st' : St} {a : Act} {w : World} {G : Gh} {X F : Nat → Prop} {nid : Nat} {o : Oper}

theorem behind_cells {id : Nat} {fz : Bool} {e sz : Nat} {xs : List AV} {i off : Nat} {ad : Addr} {n c : Nat} (hk : RowOK w G id fz e sz xs) (hρ : G.ρ id = .slice (some ad) n c) {x : AV} (hx : xs[i]? = some x) {S : Cells} (hS : ∀ fl b o, G.S fl b o → S fl b o)
    (hrow : ∀ g o, (G.ρ id).ownBlock = some g → o < xs.length * sz → S true g o) : RO w S (.cptr (x.cells.drop off)) (.pointer (some (ad.add (i * sz + off)))) := by
  obtain ⟨hal, hlim, hsz, hcell, inner, ho, hr⟩ := hk
  have hil : i < xs.length := (List.getElem?_eq_some_iff.1 hx).1
  have hxm : x ∈ xs := List.mem_of_getElem? hx
  have hxl := hsz x hxm
  rw [hρ] at ho
  rcases ho.2 with ⟨h, _⟩ | ⟨g, cap, cur, h, h5, h6, h7, h8, h9, h10⟩
  · simp at h
  · simp only [Value.slice.injEq, Option.some.injEq] at h
    obtain ⟨rfl, rfl, rfl⟩ := h
    have hmul : (i + 1) * sz ≤ xs.length * sz := Nat.mul_le_mul_right _ hil
    rw [Nat.add_mul, Nat.one_mul] at hmul
    have hfl : (flat xs).length = xs.length * sz := flat_length hsz
    refine .cptr _ _ _ (fun j => inner.getD (i * sz + off + j) undef) (by rw [add_eq (ad := ⟨g, 0, none⟩) rfl]) (fun j hj => ?_) (fun j hj => ?_)
    · have hj' : off + j < sz := by simp at hj; omega
      have hlt : i * sz + off + j < xs.length * sz := by omega
      have hcl := World.ownsRow.cellAt ho (i * sz + off + j) hlt
      rw [add_eq (ad := ⟨g, 0, none⟩) rfl]
      simp only [Nat.zero_add]
      rw [add_eq rfl]
      refine ⟨⟨true, hrow g _ (by rw [hρ]; rfl) hlt⟩, ?_⟩
      rw [hcl]
      have : i * sz + off + j < inner.length := by rw [ho.1]; exact hlt
      simp [List.getD_eq_getElem?_getD, this]
    · have hj' : off + j < sz := by simp at hj; omega
      have hlt : i * sz + off + j < xs.length * sz := by omega
      have h11 := hr (i * sz + off + j) (by rw [hfl]; exact hlt)
      have h12 := flat_at hsz i (off + j) x hx hj'
      rw [drop_get hj]
      have e : (flat xs)[i * sz + off + j]'(by rw [hfl]; exact hlt) = x.cells[off + j]'(by omega) := by
        have : (flat xs)[i * sz + off + j]? = x.cells[off + j]? := by rw [← h12]; congr 1; omega
        rw [List.getElem?_eq_getElem (by rw [hfl]; exact hlt), List.getElem?_eq_getElem (by omega)] at this
        simpa using this
      rw [← e]
      exact h11.mono hS (fun _ _ _ _ => rfl)

/-- All that may be lent. -/
def Gh.full (G : Gh) (w : World) : Cells := G.more w (fun id => ∃ fz e sz xs, RowOK w G id fz e sz xs) (fun id => ∃ cs, BoxOK w G id cs)
/-- What is lent is read. -/
theorem RV.lentRO {bx : Nat → Option (List AV)} (hb : ∀ id cs, bx id = some cs → BoxOK w G id cs) : ∀ (n : Nat) {v : AV} {x : Value}, RV w G v x → RO w (G.full w) (lend bx n v) x
  | 0, v, x, _ => .undef _ _
  | n + 1, v, x, h => by
    have hS : ∀ fl b o, G.S fl b o → G.full w fl b o := fun _ _ _ hs => Or.inl hs
    unfold lend
    refine RV.mapRO (fun a v h => h.mono hS (fun _ _ _ _ => rfl)) ?_ ?_ ?_ (.slNil _ _ _ _ (fun _ => rfl)) h
    · intro id fz e sz xs hk
      exact hk.sl hS (fun g o hg ho => hk.inR ⟨_, _, _, _, hk⟩ g o hg ho)
    · intro id off b hμ
      split
      · rename_i cs hcs
        obtain ⟨b', vs, T, h1, h2, h3, h4, h5, h6⟩ := hb id cs hcs
        obtain rfl : b = b' := by rw [hμ] at h1; simpa using h1
        refine .cptr _ _ _ (fun j => vs.getD (off + j) undef) rfl (fun j hj => ?_) (fun j hj => ?_)
        · have hj' : off + j < cs.length := by simp at hj; omega
          refine ⟨⟨true, .inr ⟨rfl, (.inr ⟨id, ⟨cs, hb id cs hcs⟩, hμ⟩)⟩⟩, ?_⟩
          rw [add_eq rfl]
          simp only [World.cell?, h2]
          rw [Array.getD_eq_getD_getElem?]
          have : off + j < vs.size := by omega
          simp [this]
        · rw [drop_get hj, List.getElem_map]
          exact RV.lentRO hb n (h6 _ (by simp at hj; omega))
      · exact .undef _ _
    · intro id fz e sz xs i off ad n c hk hρ
      split
      · rename_i x hx
        exact behind_cells hk hρ hx hS (fun g o hg ho => hk.inR ⟨_, _, _, _, hk⟩ g o hg ho)
      · exact .undef _ _

theorem any_false_agg {p : AV → Bool} {cs : List AV} : AV.anys p cs = false → ∀ j (h : j < cs.length), AV.any p cs[j] = false := by
  induction cs with
  | nil => intro _ j hj; simp at hj
  | cons c cs ih =>
    intro h j hj
    simp only [AV.anys, Bool.or_eq_false_iff] at h
    cases j with
    | zero => exact h.1
    | succ j => simpa using ih h.2 j (by simpa using hj)

/-- What has no address in it is lent as it is sealed. -/
theorem RV.lentSeal {bx : Nat → Option (List AV)} {n : Nat} {v : AV} {x : Value} (h : RV w G v x) (hp : v.any isPtr = false) : lend bx (n + 1) v = v.shutV := by
  unfold lend AV.shutV
  induction h with
  | ro h => rw [h.mapO_eq, h.mapO_eq]
  | nils => rfl
  | own => rfl
  | ptr => simp [AV.any, isPtr] at hp
  | eptr => simp [AV.any, isPtr] at hp
  | agg cs vs hl hr ih =>
    simp only [AV.any, Bool.or_eq_false_iff] at hp
    rw [AV.mapO, AV.mapO, AV.mapOs_eq, AV.mapOs_eq]
    congr 1
    apply List.ext_getElem (by simp)
    intro j h1 h2
    simp only [List.getElem_map]
    exact ih j (by simpa using h1) (any_false_agg hp.2 j (by simpa using h1))
  | tup cs vs hl hr ih =>
    simp only [AV.any, Bool.or_eq_false_iff] at hp
    rw [AV.mapO, AV.mapO, AV.mapOs_eq, AV.mapOs_eq]
    congr 1
    apply List.ext_getElem (by simp)
    intro j h1 h2
    simp only [List.getElem_map]
    exact ih j (by simpa using h1) (any_false_agg hp.2 j (by simpa using h1))
  | clo f cs vs hl hr ih =>
    simp only [AV.any, Bool.or_eq_false_iff] at hp
    rw [AV.mapO, AV.mapO, AV.mapOs_eq, AV.mapOs_eq]
    congr 1
    apply List.ext_getElem (by simp)
    intro j h1 h2
    simp only [List.getElem_map]
    exact ih j (by simpa using h1) (any_false_agg hp.2 j (by simpa using h1))

theorem RowOK.plain {id : Nat} {fz : Bool} {e sz : Nat} {xs : List AV} (h : RowOK w G id fz e sz xs) {g : Nat} (hg : (G.ρ id).ownBlock = some g) : ∃ cur e, w.heap[g]? = some (.cells cur e (0, 0)) := by
  obtain ⟨_, _, _, _, inner, ho, _⟩ := h
  rcases ho.2 with ⟨h5, h6⟩ | ⟨g', cap, cur, h5, h0, h7, _⟩
  · rw [h5] at hg; simp [Value.ownBlock] at hg
  · rw [h5] at hg
    obtain rfl : g' = g := by simpa [Value.ownBlock] using hg
    exact ⟨cur, e, h7⟩
theorem Inv.full (hi : Inv w G X) {fl : Bool} {b o : Nat} (hs : G.full w fl b o) : b < w.heap.size ∧ (fl = false → b < G.nb) ∧ (fl = true → G.nb ≤ b ∧ ∃ cur e, w.heap[b]? = some (.cells cur e (0, 0))) := by
  rcases hs with hs | ⟨rfl, ⟨id, ⟨fz, e, sz, xs, hk⟩, hal, hg, _⟩ | ⟨id, ⟨cs, hb⟩, hμ⟩⟩
  · exact ⟨hi.lt fl b o hs, fun e => hi.old b o (e ▸ hs), fun e => hi.new b o (e ▸ hs)⟩
  · have := hi.row id b hal hg
    exact ⟨this.2.1, fun e => by simp at e, fun _ => ⟨this.2.2, hk.plain hg⟩⟩
  · have := hi.box id b hμ
    obtain ⟨b', vs, T, h1, h2, _⟩ := hb
    obtain rfl : b = b' := by rw [hμ] at h1; simpa using h1
    exact ⟨this.2.1, fun e => by simp at e, fun _ => ⟨this.2.2, _, _, h2⟩⟩

/-- The ghost that a call begins with to which nothing is given, only lent. -/
def Gh.lent (nb : Nat) (S : Cells) : Gh := { nb := nb, S := S, μ := fun _ => none, ρ := fun _ => .slice none 0 0, lim := fun _ => 0, al := fun _ => False }
theorem Inv.lent {S : Cells} (hnb : G.nb ≤ w.heap.size) (hS : ∀ fl b o, S fl b o → b < w.heap.size ∧ (fl = false → b < G.nb) ∧ (fl = true → G.nb ≤ b ∧ ∃ cur e, w.heap[b]? = some (.cells cur e (0, 0)))) {X : Nat → Prop} :
    Inv w (Gh.lent G.nb S) X where
  nb := hnb
  row := fun i g h => h.elim
  box := fun i b h => by simp [Gh.lent] at h
  rows := fun i j g h => h.elim
  boxes := fun i j b h => by simp [Gh.lent] at h
  rowBox := fun i j b h => h.elim
  lt := fun fl b o h => (hS fl b o h).1
  old := fun b o h => (hS false b o h).2.1 rfl
  new := fun b o h => (hS true b o h).2.2 rfl
  sBox := fun fl b o i h => by simp [Gh.lent]
  sRow := fun fl b o i h hal => hal.elim

/-- What comes back leads to nothing that is read. -/
theorem noref_agg {cs : List AV} (h : noref (.agg cs) = true) (j : Nat) (hj : j < cs.length) : noref cs[j] = true := by
  simp only [noref, AV.any, Bool.not_or, Bool.and_eq_true, Bool.not_eq_true'] at h ⊢
  exact any_false_agg h.2 j hj
theorem noref_tup {cs : List AV} (h : noref (.tup cs) = true) (j : Nat) (hj : j < cs.length) : noref cs[j] = true := by
  simp only [noref, AV.any, Bool.not_or, Bool.and_eq_true, Bool.not_eq_true'] at h ⊢
  exact any_false_agg h.2 j hj
theorem noref_clo {f : Nat} {cs : List AV} (h : noref (.clo f cs) = true) (j : Nat) (hj : j < cs.length) : noref cs[j] = true := by
  simp only [noref, AV.any, Bool.not_or, Bool.and_eq_true, Bool.not_eq_true'] at h ⊢
  exact any_false_agg h.2 j hj
theorem scal_ro {S S' : Cells} {w w' : World} {c : AV} {v : Value} (h : RO w S c v) (hc : isScal c = true) : RO w' S' c v := by
  cases h <;> simp [isScal] at hc
  · exact .int _ _ _
  · exact .bool _ _
  · exact .str _ _
theorem noref_ro {S : Cells} {v : AV} {x : Value} (h : RO w S v x) (hn : noref v = true) : ∀ (w' : World) (S' : Cells), RO w' S' v x := by
  intro w' S'
  induction h with
  | undef S v => exact .undef _ _
  | int S k n => exact .int _ _ _
  | bool S b => exact .bool _ _
  | str S s => exact .str _ _
  | slNil S fl A c h => exact .slNil _ _ _ _ h
  | sl S fl xs ad c sz cv hne => cases xs with
    | nil => exact absurd rfl hne
    | cons y r => simp [noref, AV.any, isRef] at hn
  | cptr => simp [noref, AV.any, isRef] at hn
  | agg S cs vs hl hr ih => exact .agg _ _ _ hl (fun j hj => ih j hj (noref_agg hn j hj))
  | tup S cs vs hl hr ih => exact .tup _ _ _ hl (fun j hj => ih j hj (noref_tup hn j hj))
  | clo S f cs vs hl hr ih => exact .clo _ _ _ _ hl (fun j hj => ih j hj (noref_clo hn j hj))
end
end Go.Proofs.Ytogjbacgkcodmaa.Flat
/-
A call that only reads what it is handed.
-/
set_option linter.unusedVariables false
set_option linter.unusedSimpArgs false
namespace Go.Proofs.Ytogjbacgkcodmaa.Flat
section
variable {P : Program} {st st' : St} {a : Act} {w w' : World} {G G' : Gh} {X F : Nat → Prop} {nid : Nat} {o : Oper}

/-- The rows of a call's answer take names of ours; the rows in Gv are ours no more. -/
noncomputable def Gh.imp (G G' : Gh) (nid : Nat) (S : Cells) (Gv : Nat → Prop) : Gh :=
  { nb := G.nb, S := S, μ := G.μ
    ρ := fun i => if nid ≤ i ∧ i < nid + 8 then G'.ρ (i - nid) else G.ρ i
    lim := fun i => if nid ≤ i ∧ i < nid + 8 then G'.lim (i - nid) else G.lim i
    al := fun i => (nid ≤ i ∧ i < nid + 8 ∧ G'.al (i - nid)) ∨ (¬ (nid ≤ i ∧ i < nid + 8) ∧ G.al i ∧ ¬ Gv i) }

theorem noref_own {id : Nat} {fz : Bool} {e sz : Nat} {xs : List AV} (h : noref (.own id fz e sz xs) = true) : ∀ y ∈ flat xs, isScal y = true := by
  intro y hy
  simp only [noref, AV.any, isRef, Bool.not_not] at h
  obtain ⟨x, hx, hy⟩ := List.mem_flatMap.1 hy
  exact List.all_eq_true.1 (List.all_eq_true.1 h x hx) y hy

/-- What comes back, under names of ours. -/
theorem RV.imp {S : Cells} {Gv : Nat → Prop} {v : AV} {x : Value} (h : RV w G' v x) (hS : (∀ fl b o, G'.S fl b o → S fl b o) ∨ noref v = true) (hsm : ∀ id ∈ v.rows, id < 8) : RV w (G.imp G' nid S Gv) (import_ nid v) x := by
  have hss : ∀ (cs : List AV) (j : Nat) (h : j < cs.length), ∀ id ∈ cs[j].rows, id ∈ AV.rowss cs := by
    intro cs
    induction cs with
    | nil => intro j hj; simp at hj
    | cons c cs ih =>
      intro j hj id hm
      simp only [AV.rowss, List.mem_append]
      cases j with
      | zero => exact .inl (by simpa using hm)
      | succ j => exact .inr (ih j (by simpa using hj) id (by simpa using hm))
  unfold import_
  induction h with
  | ro h =>
    rw [h.mapO_eq]
    rcases hS with hS | hn
    · exact .ro (h.mono hS (fun _ _ _ _ => rfl))
    · exact .ro (noref_ro h hn _ _)
  | nils => exact .nils
  | own id fz e sz xs hk =>
    have hid : id < 8 := hsm id (by simp [AV.rows])
    obtain ⟨h1, h2, h3, h4, inner, ho, hr⟩ := hk
    have hin : nid ≤ nid + id ∧ nid + id < nid + 8 := ⟨by omega, by omega⟩
    have e1 : (G.imp G' nid S Gv).ρ (nid + id) = G'.ρ id := by simp only [Gh.imp, if_pos hin, Nat.add_sub_cancel_left]
    have e2 : (G.imp G' nid S Gv).lim (nid + id) = G'.lim id := by simp only [Gh.imp, if_pos hin, Nat.add_sub_cancel_left]
    rw [← e1]
    refine .own _ _ _ _ _ ⟨.inl ⟨hin.1, hin.2, by rw [Nat.add_sub_cancel_left]; exact h1⟩, by rw [e2]; exact h2, h3, h4, inner, by rw [e1]; exact ho, fun j hj => ?_⟩
    rcases hS with hS | hn
    · exact (hr j hj).mono hS (fun _ _ _ _ => rfl)
    · exact scal_ro (hr j hj) (noref_own hn _ (List.getElem_mem _))
  | ptr => exact rvUndef _
  | eptr => exact rvUndef _
  | agg cs vs hl hr ih =>
    rw [AV.mapO, AV.mapOs_eq]
    exact .agg _ _ (by simpa using hl) fun j hj => by
      rw [getD_map_lt]
      exact ih j (by simpa using hj) (hS.imp id fun hn => noref_agg hn j (by simpa using hj)) (fun id hm => hsm id (hss cs j (by simpa using hj) id hm))
  | tup cs vs hl hr ih =>
    rw [AV.mapO, AV.mapOs_eq]
    exact .tup _ _ (by simpa using hl) fun j hj => by
      rw [getD_map_lt]
      exact ih j (by simpa using hj) (hS.imp id fun hn => noref_tup hn j (by simpa using hj)) (fun id hm => hsm id (hss cs j (by simpa using hj) id hm))
  | clo n cs vs hl hr ih =>
    rw [AV.mapO, AV.mapOs_eq]
    exact .clo _ _ _ (by simpa using hl) fun j hj => by
      rw [getD_map_lt]
      exact ih j (by simpa using hj) (hS.imp id fun hn => noref_clo hn j (by simpa using hj)) (fun id hm => hsm id (hss cs j (by simpa using hj) id hm))

theorem small_ok {v : AV} (h : small v = true) : ∀ id ∈ v.rows, id < 8 := fun id hid => of_decide_eq_true (List.all_eq_true.1 h id hid)

/-- The invariant behind a call. X0: the blocks that were given; hb: io variables are still the callee's. -/
theorem Inv.imp {X0 : Nat → Prop} {G0 : Gh} {S : Cells} {Gv : Nat → Prop} (hi : Inv w G X) (hX : ∀ b, w.heap.size ≤ b → X b) (hX0 : ∀ b, X0 b → X b) (hF : ∀ i, nid ≤ i → i < nid + 8 → ¬ G.al i ∧ G.μ i = none)
    (hi' : Inv w' G' (fun b => X0 b ∨ w.heap.size ≤ b)) (hstep : Step false w w' G0 G' (fun b => X0 b ∨ w.heap.size ≤ b)) (hnb : G0.nb = G.nb)
    (hrow : ∀ i g, G.al i → ¬ Gv i → (G.ρ i).ownBlock = some g → ¬ X0 g) (hbox : ∀ i b, G.μ i = some b → X0 b → ∃ j, G'.μ j = some b)
    (hSG : ∀ fl b o, S fl b o → G'.S fl b o) (hSn : ∀ fl b o, S fl b o → G.S fl b o ∨ X0 b ∨ w.heap.size ≤ b) : Inv w' (G.imp G' nid S Gv) X := by
  have hsz := hstep.size
  have hρi : ∀ {i}, nid ≤ i ∧ i < nid + 8 → (G.imp G' nid S Gv).ρ i = G'.ρ (i - nid) := fun h => by simp only [Gh.imp, if_pos h]
  have hρo : ∀ {i}, ¬ (nid ≤ i ∧ i < nid + 8) → (G.imp G' nid S Gv).ρ i = G.ρ i := fun h => by simp only [Gh.imp, if_neg h]
  have hli : ∀ {i}, nid ≤ i ∧ i < nid + 8 → (G.imp G' nid S Gv).lim i = G'.lim (i - nid) := fun h => by simp only [Gh.imp, if_pos h]
  have hlo : ∀ {i}, ¬ (nid ≤ i ∧ i < nid + 8) → (G.imp G' nid S Gv).lim i = G.lim i := fun h => by simp only [Gh.imp, if_neg h]
  have hnb' : G'.nb = G.nb := hstep.nb.trans hnb
  have hold : ∀ i g, G.al i → ¬ Gv i → (G.ρ i).ownBlock = some g → ∀ j, G'.al j → (G'.ρ j).ownBlock ≠ some g := by
    intro i g h1 h2 h3 j h4 h5
    rcases (hi'.row j g h4 h5).1 with h6 | h6
    · exact hrow i g h1 h2 h3 h6
    · have := (hi.row i g h1 h3).2.1; omega
  exact {
    nb := Nat.le_trans hi.nb hsz
    row := fun i g hal hg => by
      rcases hal with ⟨h1, h2, h3⟩ | ⟨h1, h2, h3⟩
      · rw [hρi ⟨h1, h2⟩] at hg
        obtain ⟨h4, h5, h6⟩ := hi'.row _ g h3 hg
        exact ⟨h4.elim (hX0 g) (hX g), h5, by show G.nb ≤ g; rw [← hnb']; exact h6⟩
      · rw [hρo h1] at hg
        obtain ⟨h4, h5, h6⟩ := hi.row i g h2 hg
        exact ⟨h4, Nat.lt_of_lt_of_le h5 hsz, h6⟩
    box := fun i b hb => by
      obtain ⟨h4, h5, h6⟩ := hi.box i b hb
      exact ⟨h4, Nat.lt_of_lt_of_le h5 hsz, h6⟩
    rows := fun i j g hai haj hij hg hg' => by
      rcases hai with ⟨h1, h2, h3⟩ | ⟨h1, h2, h3⟩ <;> rcases haj with ⟨h4, h5, h6⟩ | ⟨h4, h5, h6⟩
      · rw [hρi ⟨h1, h2⟩] at hg; rw [hρi ⟨h4, h5⟩] at hg'
        exact hi'.rows _ _ g h3 h6 (by omega) hg hg'
      · rw [hρi ⟨h1, h2⟩] at hg; rw [hρo h4] at hg'
        exact hold j g h5 h6 hg' _ h3 hg
      · rw [hρo h1] at hg; rw [hρi ⟨h4, h5⟩] at hg'
        exact hold i g h2 h3 hg _ h6 hg'
      · rw [hρo h1] at hg; rw [hρo h4] at hg'
        exact hi.rows i j g h2 h5 hij hg hg'
    boxes := hi.boxes
    rowBox := fun i j b hai hg hb => by
      rcases hai with ⟨h1, h2, h3⟩ | ⟨h1, h2, h3⟩
      · rw [hρi ⟨h1, h2⟩] at hg
        rcases (hi'.row _ b h3 hg).1 with h6 | h6
        · obtain ⟨q, hq⟩ := hbox j b hb h6
          exact hi'.rowBox _ q b h3 hg hq
        · have := (hi.box j b hb).2.1; omega
      · rw [hρo h1] at hg; exact hi.rowBox i j b h2 hg hb
    lt := fun fl b o hs => hi'.lt fl b o (hSG fl b o hs)
    old := fun b o hs => by have := hi'.old b o (hSG false b o hs); rw [hnb'] at this; exact this
    new := fun b o hs => by have := hi'.new b o (hSG true b o hs); rw [hnb'] at this; exact this
    sBox := fun fl b o i hs hb => by
      rcases hSn fl b o hs with h1 | h1 | h1
      · exact hi.sBox fl b o i h1 hb
      · obtain ⟨q, hq⟩ := hbox i b hb h1
        exact hi'.sBox fl b o q (hSG fl b o hs) hq
      · have := (hi.box i b hb).2.1; omega
    sRow := fun fl b o i hs hai hg => by
      rcases hai with ⟨h1, h2, h3⟩ | ⟨h1, h2, h3⟩
      · rw [hρi ⟨h1, h2⟩] at hg
        rw [hli ⟨h1, h2⟩]
        exact hi'.sRow fl b o _ (hSG fl b o hs) h3 hg
      · rw [hρo h1] at hg
        rw [hlo h1]
        rcases hSn fl b o hs with h4 | h4 | h4
        · exact hi.sRow fl b o i h4 h2 hg
        · exact absurd h4 (hrow i b h2 h3 hg)
        · have := (hi.row i b h2 hg).2.1; omega }

/-- A call that only reads what it is handed. -/
theorem evRo_ok {k : Bool} {Φ : Phi} {md : List Mode} {n : Nat} {args : List AV} {cargs : Array Value} {v : AV} {ids : List Nat} (h : Rel st a w G X F) (hX : ∀ b, w.heap.size ≤ b → X b) (hF : ∀ i, nid ≤ i → i < nid + 8 → F i)
    (hΦ : ∀ args ret fin, Φ n args [] = some (ret, fin) → CallOK false P md n args [] ret fin) (hl : cargs.size = args.length) (hargs : ∀ j (h : j < args.length), RV w G args[j] (cargs.getD j undef))
    (he : evRo Φ st.box nid n args = some (v, ids)) (hp : (st.freeze ids).put o.dst v = some st') :
    Calls P n cargs w fun e w' => ∃ x G', e = .returned x ∧ Step k w w' G G' X ∧ Rel st' (a.put o.dst x) w' G' X (fun i => F i ∧ ¬ (nid ≤ i ∧ i < nid + 8)) := by
  have hFn : ∀ i, nid ≤ i → i < nid + 8 → ¬ G.al i ∧ G.μ i = none := fun i h1 h2 => h.free i (hF i h1 h2)
  unfold evRo at he
  obtain ⟨⟨ret, fin⟩, hret, he⟩ := Option.bind_eq_some_iff.1 he
  simp only at he
  cases fin with
  | cons _ _ => simp at he
  | nil =>
    simp only at he
    split at he
    · rename_i hsm
      have hsm' := small_ok hsm
      -- the state behind the call, once S is chosen
      have fin : ∀ (G1 : Gh) (S : Cells) (st1 : St) (w' : World) (G' : Gh) (x : Value), Rel st1 a w G1 X F → Step false w w G G1 X → (∀ i, nid ≤ i → i < nid + 8 → ¬ G1.al i ∧ G1.μ i = none) →
          Step false w w' (Gh.lent G.nb S) G' (fun b => False ∨ w.heap.size ≤ b) → Inv w' G' (fun b => False ∨ w.heap.size ≤ b) → RV w' G' ret x → G1.nb = G.nb → (∀ fl b o, G1.S fl b o → S fl b o) →
          ((∀ fl b o, S fl b o → G1.S fl b o) ∨ noref ret = true) → st1.put o.dst (import_ nid ret) = some st' →
          ∃ G2, Step k w w' G G2 X ∧ Rel st' (a.put o.dst x) w' G2 X (fun i => F i ∧ ¬ (nid ≤ i ∧ i < nid + 8)) := by
        intro G1 S st1 w' G' x hr1 hs1 hF1 hstep hinv' hrv hnb hS1 hor hput
        have hblk : ∀ b, b < w.heap.size → w'.heap[b]? = w.heap[b]? := fun b hb => hstep.block b hb (by simp; omega)
        have main : ∀ (S2 : Cells), (∀ fl b o, G1.S fl b o → S2 fl b o) → (∀ fl b o, S2 fl b o → G'.S fl b o) → (∀ fl b o, S2 fl b o → G1.S fl b o ∨ (fl = true ∧ w.heap.size ≤ b)) → ((∀ fl b o, G'.S fl b o → S2 fl b o) ∨ noref ret = true) →
            ∃ G2, Step k w w' G G2 X ∧ Rel st' (a.put o.dst x) w' G2 X (fun i => F i ∧ ¬ (nid ≤ i ∧ i < nid + 8)) := by
          intro S2 h1 h2 h3 h4
          have hcell : ∀ fl b o, G1.S fl b o → w'.cell? ⟨b, o, none⟩ = w.cell? ⟨b, o, none⟩ := fun fl b o hs => World.cell?_of_block (hblk b (hr1.inv.lt fl b o hs))
          have hinv2 : Inv w' (G1.imp G' nid S2 (fun _ => False)) X := hr1.inv.imp (X0 := fun _ => False) (G0 := Gh.lent G.nb S) hX (fun _ h => h.elim) hF1 hinv' hstep (by rw [hnb]; rfl) (fun _ _ _ _ _ h => h) (fun _ _ _ h => h.elim) h2
            (fun fl b o hs => (h3 fl b o hs).imp id fun h => .inr h.2)
          have hkeep : Keep w w' G1 (G1.imp G' nid S2 (fun _ => False)) (fun _ => False) := {
            S := h1
            cell := hcell
            row := fun i _ hal => by
              have hne : ¬ (nid ≤ i ∧ i < nid + 8) := fun h => (hF1 i h.1 h.2).1 hal
              exact ⟨.inr ⟨hne, hal, fun h => h⟩, by simp only [Gh.imp, if_neg hne], by simp only [Gh.imp, if_neg hne], fun g hg => hblk g (hr1.inv.row i g hal hg).2.1⟩
            box := fun _ _ hb => hb }
          have hr2 : Rel st1 a w' (G1.imp G' nid S2 (fun _ => False)) X (fun i => F i ∧ ¬ (nid ≤ i ∧ i < nid + 8)) := hr1.keep hkeep (fun i b hb => hblk b (hr1.inv.box i b hb).2.1) hinv2 (fun i hi => by
            obtain ⟨h5, h6⟩ := hr1.free i hi.1
            refine ⟨fun hal => ?_, h6⟩
            rcases hal with ⟨h7, h8, _⟩ | ⟨_, h7, _⟩
            · exact hi.2 ⟨h7, h8⟩
            · exact h5 h7)
          have hx := hrv.imp (G := G1) (nid := nid) (S := S2) (Gv := fun _ => False) h4 hsm'
          have hs2 : Step false w w' G1 (G1.imp G' nid S2 (fun _ => False)) X := ⟨hstep.os, hstep.tape, hstep.output, hstep.size, fun b hb hx => hblk b hb, rfl, fun fl b o _ hs => h1 fl b o hs, fun fl b o _ hs => hcell fl b o hs, fun fl b o hs => (h3 fl b o hs).imp id fun h => ⟨h.1, .inr h.2⟩⟩
          exact ⟨_, Step.weaken (hs1.trans hs2), (hr2.put hx hput).1⟩
        rcases hor with hor | hn
        · refine main G'.S (fun fl b o hs => hstep.S fl b o (.inl rfl) (hS1 fl b o hs)) (fun _ _ _ hs => hs) (fun fl b o hs => ?_) (.inl fun _ _ _ hs => hs)
          rcases hstep.newS fl b o hs with h1 | ⟨h1, h2⟩
          · exact .inl (hor fl b o h1)
          · exact .inr ⟨h1, h2.elim (fun h => h.elim (fun h => h.elim) id) id⟩
        · exact main G1.S (fun _ _ _ hs => hs) (fun fl b o hs => hstep.S fl b o (.inl rfl) (hS1 fl b o hs)) (fun _ _ _ hs => .inl hs) (.inr hn)
      -- the call
      have call : ∀ (G1 : Gh) (S : Cells) (st1 : St), Rel st1 a w G1 X F → Step false w w G G1 X → (∀ i, nid ≤ i → i < nid + 8 → ¬ G1.al i ∧ G1.μ i = none) → G1.nb = G.nb → (∀ fl b o, G1.S fl b o → S fl b o) →
          ((∀ fl b o, S fl b o → G1.S fl b o) ∨ noref ret = true) → st1.put o.dst (import_ nid ret) = some st' →
          (∀ fl b o, S fl b o → b < w.heap.size ∧ (fl = false → b < G.nb) ∧ (fl = true → G.nb ≤ b ∧ ∃ cur e, w.heap[b]? = some (.cells cur e (0, 0)))) →
          (∀ j (h : j < args.length), RO w S (lend st.box 4 args[j]) (cargs.getD j undef)) →
          Calls P n cargs w fun e w' => ∃ x G', e = .returned x ∧ Step k w w' G G' X ∧ Rel st' (a.put o.dst x) w' G' X (fun i => F i ∧ ¬ (nid ≤ i ∧ i < nid + 8)) := by
        intro G1 S st1 hr1 hs1 hF1 hnb hS1 hor hput hS hro
        have hc := hΦ _ _ _ hret w (Gh.lent G.nb S) (fun _ => False) cargs (by simpa using hl) (fun j hj => by
            rw [List.getElem_map]; exact .ro (hro j (by simpa using hj)))
          (Inv.lent h.inv.nb hS) (fun id cs hcs => by simp [numbered, look] at hcs) (fun _ _ => ⟨fun h => h, rfl⟩) (fun _ _ => rfl)
        refine hc.mono ?_
        rintro e w' ⟨x, G', rfl, hstep, hinv', hrv, _⟩
        obtain ⟨G2, h1, h2⟩ := fin G1 S st1 w' G' x hr1 hs1 hF1 hstep hinv' hrv hnb hS1 hor hput
        exact ⟨x, G2, rfl, h1, h2⟩
      split at he
      · rename_i hn
        obtain ⟨rfl, rfl⟩ := Prod.mk.inj (Option.some.inj he)
        exact call G (G.full w) st h (Step.refl _ _ _ _) hFn rfl (fun _ _ _ hs => .inl hs) (.inr hn) (by simpa [St.freeze] using hp) (fun fl b o hs => h.inv.full hs) (fun j hj => (hargs j hj).lentRO h.box 4)
      · split at he
        · simp at he
        · rename_i hnp
          obtain ⟨rfl, rfl⟩ := Prod.mk.inj (Option.some.inj he)
          have hids : ∀ id ∈ args.flatMap AV.rows, ∃ fz e sz xs, RowOK w G id fz e sz xs := by
            intro id hid
            obtain ⟨v, hv, hm⟩ := List.mem_flatMap.1 hid
            obtain ⟨j, hj, rfl⟩ := List.getElem_of_mem hv
            exact (hargs j hj).rows_al id hm
          obtain ⟨hr1, hs1⟩ := h.freeze hids
          refine call (G.freeze w (args.flatMap AV.rows)) (G.freeze w (args.flatMap AV.rows)).S _ hr1 hs1 hFn rfl (fun _ _ _ hs => hs) (.inl fun _ _ _ hs => hs) hp (fun fl b o hs => ⟨hr1.inv.lt fl b o hs, fun e => hr1.inv.old b o (e ▸ hs), fun e => hr1.inv.new b o (e ▸ hs)⟩) (fun j hj => ?_)
          have hnp' : args[j].any isPtr = false := by
            cases hb : args[j].any isPtr with
            | false => rfl
            | true => exact absurd (List.any_eq_true.2 ⟨_, List.getElem_mem hj, hb⟩) hnp
          rw [(hargs j hj).lentSeal hnp']
          exact (hargs j hj).shutV fun id hid => List.mem_flatMap.2 ⟨_, List.getElem_mem hj, hid⟩
    · simp at he
end
end Go.Proofs.Ytogjbacgkcodmaa.Flat
/-
One operation, whatever it is.
-/
set_option linter.unusedVariables false
set_option linter.unusedSimpArgs false
namespace Go.Proofs.Ytogjbacgkcodmaa.Flat

/-- What an operation comes to. -/
def Yields (P : Program) (Post : Value → World → Prop) : Result Next → Prop
  | .ok (.value v) w' => Post v w'
  | .ok .skip w' => Post undef w'
  | .ok (.enter f args) w' => Calls P f args w' fun e w'' => ∃ v, e = .returned v ∧ Post v w''
  | _ => False

theorem Yields.wp {P : Program} {o : Oper} {a : Act} {w : World} {Post : Value → World → Prop} {next : Act → World → Prop} {Q : Exit → Act → World → Prop}
    (h : Yields P Post ((execOp a.eval o).run P w)) (hn : ∀ v w', Post v w' → next (a.put o.dst v) w') : o.wp P a w next Q := by
  unfold Oper.wp
  generalize (execOp a.eval o).run P w = r at h
  cases r with
  | ok n w' =>
    cases n with
    | value v => exact hn _ _ h
    | skip => exact hn _ _ h
    | enter f args =>
      refine Calls.mono h ?_
      rintro e w'' ⟨v, rfl, hp⟩
      exact hn _ _ hp
    | _ => exact h.elim
  | halt x w' => exact h.elim

theorem Yields.mono {P : Program} {Post Post' : Value → World → Prop} {r : Result Next} (h : Yields P Post r) (hp : ∀ v w', Post v w' → Post' v w') : Yields P Post' r := by
  cases r with
  | ok n w' =>
    cases n with
    | value v => exact hp _ _ h
    | skip => exact hp _ _ h
    | enter f args =>
      refine Calls.mono h ?_
      rintro e w'' ⟨v, rfl, hq⟩
      exact ⟨v, rfl, hp _ _ hq⟩
    | _ => exact h.elim
  | halt x w' => exact h.elim

/-- A function that a call enters. -/
def Enters (P : Program) (f : Nat) : Prop := ∃ fn c, P.funcs[f]? = some fn ∧ fn.body = some c ∧ fn.name ≠ "runtime.NumGoroutine"

theorem run_callFunc {P : Program} {f : Nat} (h : Enters P f) (args : Array Value) (w : World) : (callFunc f args).run P w = .ok (.enter f args) w := by
  obtain ⟨fn, c, h1, h2, h3⟩ := h
  simp [callFunc, h1, h2, h3]

/-- What we know of calls. -/
def PhiOK (E : Env) (Φ : Phi) : Prop := ∀ n args ios ret fin, Φ n args ios = some (ret, fin) → Enters E.P n ∧ (ios = [] → CallOK false E.P (E.md n) n args ios ret fin)

section
variable {E : Env} {Φ : Phi} {st st' : St} {a : Act} {w : World} {G : Gh} {X F : Nat → Prop} {nid : Nat} {o : Oper}

theorem Done.yields {F' : Nat → Prop} (h : Done false E.P o a w G X F' st') : Yields E.P (fun v w' => ∃ G', Step false w w' G G' X ∧ Rel st' (a.put o.dst v) w' G' X F') ((execOp a.eval o).run E.P w) := by
  obtain ⟨w', G', hs, ⟨v, hr, hq⟩ | ⟨hr, hq⟩⟩ := h
  · rw [hr]; exact ⟨G', hs, hq⟩
  · rw [hr]; exact ⟨G', hs, hq⟩

theorem Done.less {F1 F2 : Nat → Prop} (h : Done false E.P o a w G X F1 st') (hf : ∀ i, F2 i → F1 i) : Done false E.P o a w G X F2 st' := by
  obtain ⟨w', G', hs, hq⟩ := h
  exact ⟨w', G', hs, hq.imp (fun ⟨v, h1, h2⟩ => ⟨v, h1, h2.weaken hf⟩) (fun ⟨h1, h2⟩ => ⟨h1, h2.weaken hf⟩)⟩

theorem evCall_ok {fo : Operand} {as : Array Operand} {ats : Array TypeId} (h : Rel st a w G X F) (hX : ∀ b, w.heap.size ≤ b → X b) (hF : ∀ i, nid ≤ i → i < nid + 8 → F i) (hΦ : PhiOK E Φ)
    {n : Nat} {caps : List AV} (hop : o.op = .call { callee := .value fo, args := as, argTypes := ats }) (hfo : st.val fo = .clo n caps)
    (he : ((evRo Φ st.box nid n (as.toList.map st.val ++ caps)).bind fun (v, ids) => (st.freeze ids).put o.dst v) = some st') :
    Yields E.P (fun v w' => ∃ G', Step false w w' G G' X ∧ Rel st' (a.put o.dst v) w' G' X (fun i => F i ∧ ¬ (nid ≤ i ∧ i < nid + 8))) ((execOp a.eval o).run E.P w) := by
  obtain ⟨⟨v, ids⟩, hv, hp⟩ := Option.bind_eq_some_iff.1 he
  have hent : Enters E.P n := by
    unfold evRo at hv
    obtain ⟨⟨ret, fin⟩, hr, _⟩ := Option.bind_eq_some_iff.1 hv
    exact (hΦ _ _ _ _ _ hr).1
  have hf := h.sees.val fo
  rw [hfo] at hf
  have hclo : ∃ vs : Array Value, a.eval fo = .func (.func n) #[] vs ∧ vs.size = caps.length ∧ ∀ j (h : j < caps.length), RV w G caps[j] (vs.getD j undef) := by
    generalize a.eval fo = x at hf
    cases hf with
    | ro h => cases h with
      | clo _ _ _ vs hl hr => exact ⟨vs, rfl, hl, fun j hj => .ro (hr j hj)⟩
    | clo _ _ vs hl hr => exact ⟨vs, rfl, hl, hr⟩
  obtain ⟨vs, hvs, hl, hr⟩ := hclo
  have hrun : (execOp a.eval o).run E.P w = .ok (.enter n (as.map a.eval ++ vs)) w := by
    simp [execOp, hop, resolve, hvs, Deferred.ofValue, invoke, run_callFunc hent]
  rw [hrun]
  refine evRo_ok (k := false) h hX hF (fun args ret fin hq => (hΦ _ _ _ _ _ hq).2 rfl) (by simp [hl]) (fun j hj => ?_) hv hp |>.mono ?_
  · rw [Array.getD_eq_getD_getElem?]
    by_cases hj' : j < as.size
    · rw [List.getElem_append_left (by simpa using hj'), Array.getElem?_append_left (by simpa using hj')]
      simp only [List.getElem_map, Array.getElem_toList, Array.getElem?_map]
      rw [Array.getElem?_eq_getElem hj']
      exact h.sees.val _
    · rw [List.getElem_append_right (by simpa using hj'), Array.getElem?_append_right (by simpa using hj')]
      have hj2 : j - as.size < caps.length := by simp at hj; omega
      have := hr (j - as.size) hj2
      rw [Array.getD_eq_getD_getElem?] at this
      simpa using this
  · rintro e w' ⟨x, G', rfl, h1, h2⟩
    exact ⟨x, rfl, G', h1, h2⟩

theorem evFree_yields (h : Rel st a w G X F) (he : ((evFree E Φ st.box nid st.val o.op).bind fun (v, _) => st.put o.dst v) = some st') (hc : isCallV o.op = false) :
    Yields E.P (fun v w' => ∃ G', Step false w w' G G' X ∧ Rel st' (a.put o.dst v) w' G' X (fun i => F i ∧ ¬ (nid ≤ i ∧ i < nid + 8))) ((execOp a.eval o).run E.P w) := by
  obtain ⟨⟨v, ids⟩, hv, hp⟩ := Option.bind_eq_some_iff.1 he
  obtain ⟨_, cv, hrun, hx⟩ := evPure_ok h.sees hv hc
  rw [hrun]
  exact ⟨G, Step.refl _ _ _ _, ((h.put hx hp).1).weaken fun i hi => hi.1⟩

theorem seal_length (v : AV) : v.shutV.cells.length = v.cells.length := by
  cases v <;> simp [AV.shutV, AV.mapO, AV.cells, AV.mapOs_eq]

theorem evStore_ok {t : Nat} {p x : Operand} (h : Rel st a w G X F) (hop : o.op = .store t p x) (he : evStore E.P t (st.val p) (st.val x) o.dst st = some st') : Done false E.P o a w G X F st' := by
  unfold evStore at he
  obtain ⟨ti, hti, he⟩ := Option.bind_eq_some_iff.1 he
  split at he
  · rename_i h1
    split at he
    · rename_i id off hp
      obtain ⟨cs, hcs, he⟩ := Option.bind_eq_some_iff.1 he
      split at he
      · rename_i h2
        exact evStoreBox_ok h hop hti hp hcs h1.1 h1.2 h2 he
      · simp at he
    · rename_i id e0 sz xs i off hp
      obtain ⟨y, hy, he⟩ := Option.bind_eq_some_iff.1 he
      simp only at he
      split at he
      · rename_i h2
        refine evStoreElem_ok h hop hti hp hy h1.1 h2.1 h2.2.1 ?_ h2.2.2 he
        rw [seal_length]; exact h1.1
      · simp at he
    · simp at he
  · simp at he

theorem evOp_ok (h : Rel st a w G X F) (hX : ∀ b, w.heap.size ≤ b → X b) (hF : ∀ i, nid ≤ i → i < nid + 8 → F i) (hΦ : PhiOK E Φ) (hkill : ∀ n, E.kill n = false) (hmd : ∀ n, (E.md n).all (· == .ro) = true)
    (he : evOp E Φ nid o st = some st') :
    Yields E.P (fun v w' => ∃ G', Step false w w' G G' X ∧ Rel st' (a.put o.dst v) w' G' X (fun i => F i ∧ ¬ (nid ≤ i ∧ i < nid + 8))) ((execOp a.eval o).run E.P w) := by
  have hn : F nid := hF nid (Nat.le_refl _) (by omega)
  have hw : ∀ i, F i ∧ ¬ (nid ≤ i ∧ i < nid + 8) → F i ∧ i ≠ nid := fun i hi => ⟨hi.1, fun e => hi.2 (by omega)⟩
  unfold evOp at he
  split at he
  · rename_i t hop
    exact ((evAlloc_ok h hX hn hop he).less hw).yields
  · rename_i t x hop
    exact ((evBox_ok h hX hn hop he).less hw).yields
  · rename_i t p x hop
    exact ((evStore_ok h hop he).less fun i hi => hi.1).yields
  · rename_i t len ps hop
    exact ((evBuildSlice_ok h hX hn hop he).less hw).yields
  · rename_i t l c hop
    exact ((evMakeSlice_ok h hX hn hop he).less hw).yields
  · rename_i as ts hop
    split at he
    · rename_i s x t u has hts
      exact ((evAppend_ok h hX hn hop has hts he).less hw).yields
    · simp at he
  · rename_i f as ats hop
    split at he
    · rename_i n caps hf
      rw [hkill n, hmd n] at he
      simp only [Bool.false_eq_true, if_false, if_true] at he
      exact evCall_ok h hX hF hΦ hop hf he
    · simp at he
  · rename_i op _ _ _ _ _ _ hcall
    refine evFree_yields h he ?_
    unfold isCallV
    split
    · rename_i f as ats hop
      exact absurd hop (hcall _ _ _)
    · rfl
end
end Go.Proofs.Ytogjbacgkcodmaa.Flat
/-
A region, in the order that is written.
-/
set_option linter.unusedVariables false
set_option linter.unusedSimpArgs false
namespace Go.Proofs.Ytogjbacgkcodmaa.Flat
section
variable {E : Env} {Φ : Phi} {st st' : St} {a : Act} {w : World} {G : Gh} {X F : Nat → Prop} {nid : Nat} {o : Oper}

theorem bool_of_rv {w : World} {G : Gh} {t : Bool} {x : Value} (h : RV w G (.bool t) x) : x = .bool t := by
  cases h with
  | ro h => cases h; rfl

theorem skip_of_rv {w : World} {G : Gh} {x : Value} (h : RV w G (.tup []) x) : x = .tuple #[] := by
  cases h with
  | ro h => cases h with
    | tup _ _ vs hl => simp at hl; subst hl; rfl
  | tup _ vs hl => simp at hl; subst hl; rfl
theorem look_bool {tmps : Array Value} {d : Nat} {t : Bool} (h : tmps.getD d undef = .bool t) : tmps[d]? = some (.bool t) := by
  rw [Array.getD_eq_getD_getElem?] at h
  cases hq : tmps[d]? with
  | none => rw [hq] at h; simp [undef] at h
  | some x => rw [hq] at h; simpa using h

theorem wanted_ok {ops : Array Oper} {t : Bool} (h : Rel st a w G X F) (hw : wanted ops.toList o st = some t) : Region.wanted o (yielded ops a.tmps) = t := by
  unfold wanted at hw
  unfold Region.wanted
  split at hw
  · rename_i hg
    simp only [hg]
    exact Option.some.inj hw
  · rename_i j b hg
    simp only [hg]
    split at hw
    · rename_i d hd
      split at hw
      · rename_i t' ht
        have h1 := h.slot d
        rw [ht] at h1
        have h2 := look_bool (bool_of_rv h1)
        simp only [Array.getElem?_toList] at hd
        simp only [yielded, hd, Option.bind_some, h2]
        rw [← Option.some.inj hw]
        cases t' <;> cases b <;> rfl
      · rename_i ht
        have h1 := h.slot d
        rw [ht] at h1
        have h2 := skip_of_rv h1
        simp only [Array.getElem?_toList] at hd
        have h3 : ∀ b, a.tmps[d]? ≠ some (.bool b) := fun b e => by
          rw [Array.getD_eq_getD_getElem?, e] at h2
          simp at h2
        rw [← Option.some.inj hw]
        simp only [yielded, hd, Option.bind_some]
        cases hq : a.tmps[d]? with
        | none => rfl
        | some x =>
          cases x with
          | bool b => exact absurd hq (h3 b)
          | _ => rfl
      · simp at hw
    · simp at hw

theorem Rel.setNx (h : Rel st a w G X F) (n : Nat) : Rel { st with nx := n } a w G X F := ⟨h.size, h.defers, h.slot, h.box, h.inv, h.free⟩

/-- What holds behind code. -/
def Behind (w : World) (G : Gh) (X : Nat → Prop) (st' : St) (a' : Act) (w' : World) : Prop :=
  ∃ G', Step false w w' G G' X ∧ Rel st' a' w' G' X (fun i => st'.nx ≤ i)

theorem evOps_ok {ops : Array Oper} (hΦ : PhiOK E Φ) (hkill : ∀ n, E.kill n = false) (hmd : ∀ n, (E.md n).all (· == .ro) = true) {Q : Exit → Act → World → Prop} :
    ∀ (l : List Oper) (nid : Nat) (st : St) (a : Act) (w : World) (G : Gh), Rel st a w G X (fun i => nid ≤ i) → (∀ b, w.heap.size ≤ b → X b) → evOps E Φ ops.toList nid l st = some st' →
      (∀ a' w' G', Step false w w' G G' X → Rel st' a' w' G' X (fun i => nid + 8 * l.length ≤ i) → Q .normal a' w') → wpList E.P ops Q l a w
  | [], nid, st, a, w, G, h, hX, he, hQ => by
    simp only [evOps, Option.some.injEq] at he
    subst he
    exact hQ a w G (Step.refl _ _ _ _) (h.weaken fun i hi => by simpa using hi)
  | o :: r, nid, st, a, w, G, h, hX, he, hQ => by
    simp only [evOps] at he
    obtain ⟨t, hw, he⟩ := Option.bind_eq_some_iff.1 he
    refine wpList_step fun K hK => ?_
    rw [wanted_ok h hw]
    have hlen : ∀ i, nid + 8 * (o :: r).length ≤ i → nid + 8 + 8 * r.length ≤ i := fun i hi => by simp only [List.length_cons] at hi; omega
    cases t with
    | true =>
      simp only [if_true] at he ⊢
      obtain ⟨st1, h1, he⟩ := Option.bind_eq_some_iff.1 he
      refine (evOp_ok h hX (fun i h1 _ => h1) hΦ hkill hmd h1).wp ?_
      rintro v w' ⟨G', hs, hr⟩
      refine hK _ _ (evOps_ok hΦ hkill hmd r (nid + 8) st1 _ w' G' (hr.weaken fun i hi => ⟨by omega, by omega⟩) (fun b hb => hX b (Nat.le_trans hs.size hb)) he ?_)
      intro a' w2 G2 hs2 hr2
      exact hQ a' w2 G2 (hs.trans hs2) (hr2.weaken hlen)
    | false =>
      simp only [Bool.false_eq_true, if_false] at he ⊢
      obtain ⟨st1, h1, he⟩ := Option.bind_eq_some_iff.1 he
      refine hK _ _ (evOps_ok hΦ hkill hmd r (nid + 8) st1 _ w G (((h.put rvSkip h1).1).weaken fun i hi => by omega) hX he ?_)
      intro a' w2 G2 hs2 hr2
      exact hQ a' w2 G2 hs2 (hr2.weaken hlen)

end
end Go.Proofs.Ytogjbacgkcodmaa.Flat
/-
A region whose order the machine may choose.
-/
set_option linter.unusedVariables false
set_option linter.unusedSimpArgs false
namespace Go.Proofs.Ytogjbacgkcodmaa.Flat
section
variable {E : Env} {Φ : Phi} {o : Oper}

def tmpsOf (op : Op) : List Nat := op.operands.toList.filterMap fun | .tmp t => some t | _ => none

theorem val_congr {V V' : St} {op : Op} (h : ∀ t ∈ tmpsOf op, V'.get t = V.get t) : ∀ x ∈ op.operands.toList, V'.val x = V.val x := by
  intro x hx
  cases x with
  | tmp t => exact h t (List.mem_filterMap.2 ⟨.tmp t, hx, rfl⟩)
  | _ => rfl

theorem behind_mono {bx bx' : Nat → Option (List AV)} (hb : ∀ id cs, bx id = some cs → bx' id = some cs) {p : AV} {cs : List AV} (h : behind bx p = some cs) : behind bx' p = some cs := by
  cases p with
  | ptr id off =>
    simp only [behind] at h ⊢
    obtain ⟨ds, h1, h2⟩ := Option.map_eq_some_iff.1 h
    exact Option.map_eq_some_iff.2 ⟨ds, hb _ _ h1, h2⟩
  | _ => exact h

theorem evFree_congr {bx bx' : Nat → Option (List AV)} {n n' : Nat} {val val' : Operand → AV} {op : Op} {r : AV × List Nat} (hc : isCallV op = false) (hb : ∀ id cs, bx id = some cs → bx' id = some cs)
    (hv : ∀ x ∈ op.operands.toList, val' x = val x) (h : evFree E Φ bx n val op = some r) : evFree E Φ bx' n' val' op = some r := by
  have hopt : ∀ (lo : Option Operand), (∀ x ∈ lo, val' x = val x) → optAV val' lo = optAV val lo := by
    intro lo hlo
    cases lo with
    | none => rfl
    | some x => simp only [optAV]; rw [hlo x rfl]
  cases op <;> simp only [Op.operands] at hv <;> try (exact h)
  case load t p =>
    simp only [evFree] at h ⊢
    rw [hv p (by simp)]
    obtain ⟨v, h1, h2⟩ := Option.map_eq_some_iff.1 h
    refine Option.map_eq_some_iff.2 ⟨v, ?_, h2⟩
    unfold evLoad at h1 ⊢
    obtain ⟨ti, h3, h4⟩ := Option.bind_eq_some_iff.1 h1
    obtain ⟨cs, h5, h6⟩ := Option.bind_eq_some_iff.1 h4
    exact Option.bind_eq_some_iff.2 ⟨ti, h3, Option.bind_eq_some_iff.2 ⟨cs, behind_mono hb h5, h6⟩⟩
  case build t ps =>
    simp only [evFree] at h ⊢
    have : (ps.toList.map fun p => (p.1, val' p.2)) = ps.toList.map fun p => (p.1, val p.2) := List.map_congr_left fun p hp => by rw [hv p.2 (by simpa using ⟨p.1, by simpa using hp⟩)]
    rw [this]; exact h
  case slice t x lo hi mx =>
    cases mx with
    | some m => simp [evFree] at h
    | none =>
      simp only [evFree] at h ⊢
      rw [hv x (by simp), hopt lo (fun y hy => hv y (by simp at hy; subst hy; simp)), hopt hi (fun y hy => hv y (by simp at hy; subst hy; simp))]
      exact h
  case makeFunc f first cs =>
    cases f with
    | func f =>
      simp only [evFree] at h ⊢
      have : cs.toList.map val' = cs.toList.map val := List.map_congr_left fun p hp => hv p (by simp at hp ⊢; exact .inr hp)
      rw [this]; exact h
    | _ => simp [evFree] at h
  case call c =>
    obtain ⟨callee, args, ats⟩ := c
    simp only [Call.operands] at hv
    have hargs : args.toList.map val' = args.toList.map val := List.map_congr_left fun p hp => hv p (by simp at hp ⊢; exact .inr hp)
    cases callee with
    | value f => simp [isCallV] at hc
    | invoke => simp [evFree] at h
    | builtin b =>
      cases b <;> first | (simp [evFree] at h; done) | skip
      · simp only [evFree] at h ⊢
        cases ha : args.toList with
        | nil => rw [ha] at h; simp at h
        | cons x r =>
          cases r with
          | nil =>
            have hx : val' x = val x := hv x (by have : x ∈ args.toList := by rw [ha]; simp
                                                 simp only [Array.toList_append, List.mem_append]; exact .inr this)
            rw [ha] at h
            cases hq : ats[0]? with
            | none => simp [hq] at h
            | some t =>
              simp only [hq] at h ⊢
              rw [hx]; exact h
          | cons y r => rw [ha] at h; simp at h
      all_goals
        simp only [evFree] at h ⊢
        rw [hargs]; exact h
  all_goals
    simp only [evFree] at h ⊢
    simp_all
end
end Go.Proofs.Ytogjbacgkcodmaa.Flat
/-
Quiet operations.
-/
set_option linter.unusedVariables false
set_option linter.unusedSimpArgs false
namespace Go.Proofs.Ytogjbacgkcodmaa.Flat
section
variable {E : Env} {Φ : Phi} {o : Oper} {st st' : St} {nid : Nat}

/-- One slot is written, variables are made. -/
def Quiet (st st' : St) (dst : Option Nat) : Prop := (∀ t, dst ≠ some t → st'.get t = st.get t) ∧ (∀ id cs, st.box id = some cs → st'.box id = some cs)

theorem put_quiet {dst : Option Nat} {v : AV} (h : st.put dst v = some st') : Quiet st st' dst := by
  unfold St.put at h
  cases dst with
  | none =>
    obtain rfl := Option.some.inj h
    exact ⟨fun _ _ => rfl, fun _ _ hc => hc⟩
  | some d =>
    simp only at h
    split at h
    · obtain rfl := Option.some.inj h
      refine ⟨fun t ht => ?_, fun _ _ hc => hc⟩
      simp only [St.get, look_cons]
      rw [if_neg (fun e => ht (by rw [e]))]
    · simp at h
theorem put_slot {d : Nat} {v : AV} (h : st.put (some d) v = some st') : st'.get d = v := by
  unfold St.put at h
  simp only at h
  split at h
  · obtain rfl := Option.some.inj h
    simp [St.get, look_cons]
  · simp at h
theorem setBox_quiet {cs : List AV} (hn : st.box nid = none) : Quiet st (st.setBox nid cs) none :=
  ⟨fun _ _ => rfl, fun id ds hd => by
    simp only [St.box, St.setBox, look_cons]
    rw [if_neg (fun e => by rw [e, hn] at hd; simp at hd)]
    exact hd⟩
theorem Quiet.trans {st1 : St} {dst : Option Nat} (h : Quiet st st1 none) (h' : Quiet st1 st' dst) : Quiet st st' dst :=
  ⟨fun t ht => (h'.1 t ht).trans (h.1 t (by simp)), fun id cs hc => h'.2 id cs (h.2 id cs hc)⟩

theorem evOpQ_op (h : evOpQ E Φ nid o st = some st') : evOp E Φ nid o st = some st' := by
  unfold evOpQ at h
  unfold evOp
  split at h
  · rename_i hop; simp only [hop]; exact h
  · rename_i hop; simp only [hop]; exact h
  · rename_i hop
    simp only [hop]
    split at h
    · exact h
    · simp at h
  · rename_i hop; simp only [hop]; exact h
  · rename_i as ts hop
    simp only [hop]
    split at h
    · split at h
      · rename_i s x t u h1 h2 _ hnil
        rw [hnil]
        exact h
      · simp at h
    · simp at h
  · rename_i f as ats hop
    simp only [hop]
    split at h
    · rename_i n caps hf
      split at h
      · simp at h
      · rename_i hk
        simp only [if_neg hk]
        split at h
        · rename_i hm
          rw [if_pos hm]
          obtain ⟨⟨v, ids⟩, hv, hp⟩ := Option.bind_eq_some_iff.1 h
          refine Option.bind_eq_some_iff.2 ⟨(v, ids), hv, ?_⟩
          simp only at hp ⊢
          cases ids with
          | nil => exact hp
          | cons => simp at hp
        · simp at h
    · simp at h
  · simp at h

theorem evOpQ_quiet (hn : st.box nid = none) (h : evOpQ E Φ nid o st = some st') : Quiet st st' o.dst := by
  unfold evOpQ at h
  split at h
  · unfold evAlloc at h
    obtain ⟨ti, _, h⟩ := Option.bind_eq_some_iff.1 h
    obtain ⟨z, _, h⟩ := Option.bind_eq_some_iff.1 h
    obtain ⟨cs, _, h⟩ := Option.bind_eq_some_iff.1 h
    exact (setBox_quiet hn).trans (put_quiet h)
  · unfold evBox at h
    split at h
    · exact (setBox_quiet hn).trans (put_quiet h)
    · simp at h
  · split at h
    · rename_i hr
      unfold evBuildSlice at h
      split at h
      · obtain ⟨ti, _, h⟩ := Option.bind_eq_some_iff.1 h
        obtain ⟨te, _, h⟩ := Option.bind_eq_some_iff.1 h
        obtain ⟨xs, _, h⟩ := Option.bind_eq_some_iff.1 h
        split at h
        · rw [List.flatMap_map, hr] at h
          exact put_quiet h
        · simp at h
      · simp at h
    · simp at h
  · unfold evMakeSlice at h
    split at h
    · obtain ⟨ti, _, h⟩ := Option.bind_eq_some_iff.1 h
      obtain ⟨te, _, h⟩ := Option.bind_eq_some_iff.1 h
      obtain ⟨xs, _, h⟩ := Option.bind_eq_some_iff.1 h
      split at h
      · split at h
        · exact put_quiet h
        · simp at h
      · simp at h
    · simp at h
  · split at h
    · split at h
      · unfold evAppend at h
        split at h
        · obtain ⟨ti, _, h⟩ := Option.bind_eq_some_iff.1 h
          obtain ⟨te, _, h⟩ := Option.bind_eq_some_iff.1 h
          obtain ⟨ys, _, h⟩ := Option.bind_eq_some_iff.1 h
          split at h
          · simp only at h
            split at h
            · exact put_quiet h
            · simp at h
          · simp at h
        · simp at h
      · simp at h
    · simp at h
  · split at h
    · split at h
      · simp at h
      · split at h
        · obtain ⟨⟨v, ids⟩, hv, hp⟩ := Option.bind_eq_some_iff.1 h
          simp only at hp
          cases ids with
          | nil => exact put_quiet hp
          | cons => simp at hp
        · simp at h
    · simp at h
  · simp at h

theorem evOp_free (hc : isEff o.op = false) : evOp E Φ nid o st = (evFree E Φ st.box nid st.val o.op).bind fun (v, _) => st.put o.dst v := by
  unfold evOp
  split
  all_goals first
    | (rename_i hop; rw [hop] at hc; simp [isEff] at hc; done)
    | rfl
theorem eff_call (hc : isEff o.op = false) : isCallV o.op = false := by
  unfold isCallV
  split
  · rename_i hop; rw [hop] at hc; simp [isEff] at hc
  · rfl
end
end Go.Proofs.Ytogjbacgkcodmaa.Flat
/-
A region whose order the machine may choose: the order of the plan stands for all.
-/
set_option linter.unusedVariables false
set_option linter.unusedSimpArgs false
namespace Go.Proofs.Ytogjbacgkcodmaa.Flat

theorem look_mem {α : Type} {i : Nat} {l : List (Nat × α)} {v : α} (h : look i l = some v) : (i, v) ∈ l := by
  induction l with
  | nil => simp [look] at h
  | cons p r ih =>
    obtain ⟨j, u⟩ := p
    rw [look_cons] at h
    split at h
    · rename_i e; subst e; obtain rfl := Option.some.inj h; exact List.mem_cons_self
    · exact List.mem_cons_of_mem _ (ih h)
theorem look_isSome {α : Type} {i : Nat} {l : List (Nat × α)} (h : (look i l).isSome = true) : ∃ v, (i, v) ∈ l := by
  obtain ⟨v, hv⟩ := Option.isSome_iff_exists.1 h
  exact ⟨v, look_mem hv⟩

section
variable {E : Env} {Φ : Phi} {ops : Array Oper} {L : Nat → Prop}

/-- Whatever binds an operation that has been run has been run. -/
def Closed (ops : Array Oper) (L : Nat → Prop) : Prop := ∀ i o, L i → ops[i]? = some o → ∀ d ∈ deps o, L d
def Tab (ops : Array Oper) (seen : List (Nat × List Nat)) : Prop := ∀ i l, look i seen = some l → ∀ L : Nat → Prop, Closed ops L → L i → ∀ j ∈ l, L j
/-- Whoever writes what o looks at has been run ahead of it. -/
def Cov (ops : Array Oper) (o : Oper) : Prop := ∀ L : Nat → Prop, Closed ops L → (∀ d ∈ deps o, L d) → ∀ j q t, ops[j]? = some q → q.dst = some t → t ∈ o.looksAt ops → L j
def Topo (ops : Array Oper) : List (Nat × List Nat) → Prop
  | [] => True
  | (i, _) :: r => (∃ o, ops[i]? = some o ∧ ∀ d ∈ deps o, (look d r).isSome = true) ∧ Topo ops r

theorem mem_dedupN {i : Nat} : ∀ {l : List Nat}, i ∈ dedupN l → i ∈ l
  | [], h => h
  | j :: r, h => by
    simp only [dedupN] at h
    split at h
    · exact List.mem_cons_of_mem _ (mem_dedupN h)
    · rcases List.mem_cons.1 h with rfl | h
      · exact List.mem_cons_self
      · exact List.mem_cons_of_mem _ (mem_dedupN h)

theorem anc_in {seen : List (Nat × List Nat)} {o : Oper} (ht : Tab ops seen) (hc : Closed ops L) (hd : ∀ d ∈ deps o, L d) : ∀ j ∈ ancOf seen o, L j := by
  intro j hj
  have := mem_dedupN hj
  rcases List.mem_append.1 this with h | h
  · exact hd j h
  · obtain ⟨d, h1, h2⟩ := List.mem_flatMap.1 h
    cases hl : look d seen with
    | none => rw [hl] at h2; simp at h2
    | some l => rw [hl] at h2; exact ht d l hl L hc (hd d h1) j h2

theorem Tab.cons {seen : List (Nat × List Nat)} {i : Nat} {o : Oper} (ht : Tab ops seen) (ho : ops[i]? = some o) : Tab ops ((i, ancOf seen o) :: seen) := by
  intro j l hl L hc hj
  rw [look_cons] at hl
  split at hl
  · rename_i e
    subst e
    obtain rfl := Option.some.inj hl
    exact anc_in ht hc (hc j o hj ho)
  · exact ht j l hl L hc hj

/-- What the plan's check says of its first operation. -/
structure Head (ops : Array Oper) (q : Bool) (i : Nat) (r : List (Bool × Nat)) (seen : List (Nat × List Nat)) (last : Option Nat) (o : Oper) : Prop where
  dep : ∀ d ∈ deps o, (look d seen).isSome = true
  new : look i seen = none
  chain : ∀ e, last = some e → e ∈ ancOf seen o
  reads : ∀ j p t, ops[j]? = some p → p.dst = some t → t ∈ o.looksAt ops → j ∈ ancOf seen o
  war : ∀ j, (look j seen).isSome = true → ∃ p, ops[j]? = some p ∧ ∀ t, o.dst = some t → t ∉ p.looksAt ops ∧ p.dst ≠ some t
  self : ∀ t, o.dst = some t → t ∉ o.looksAt ops
  pure : isEff o.op = false → q = false ∧ ∃ d, o.dst = some d
  eff : isEff o.op = true → q = true ∨ ∀ j p, (look j seen).isSome = true → ops[j]? = some p → j ∈ ancOf seen o ∨ isEff p.op = true
  tail : planOK ops r ((i, ancOf seen o) :: seen) (if isEff o.op then some i else last) = true

theorem dstIn_false {l : List Nat} {d : Option Nat} (h : (!dstIn l d) = true) (t : Nat) (ht : d = some t) : t ∉ l := by
  subst ht
  simpa [dstIn] using h

theorem planOK_head {q : Bool} {i : Nat} {r : List (Bool × Nat)} {seen : List (Nat × List Nat)} {last : Option Nat} (h : planOK ops ((q, i) :: r) seen last = true) : ∃ o, ops[i]? = some o ∧ Head ops q i r seen last o := by
  simp only [planOK] at h
  split at h
  · simp at h
  · rename_i o ho
    simp only [Bool.and_eq_true] at h
    obtain ⟨⟨⟨⟨⟨⟨⟨h1, h2⟩, h3⟩, h4⟩, h5⟩, h6⟩, h7⟩, h8⟩ := h
    refine ⟨o, ho, ?_, ?_, ?_, ?_, ?_, ?_, ?_, ?_, h8⟩
    · exact fun d hd => List.all_eq_true.1 h1 d hd
    · cases hl : look i seen with
      | none => rfl
      | some l => rw [hl] at h2; simp at h2
    · intro e he
      subst he
      simpa using h3
    · intro j p t hj hp ht
      have hjs : j < ops.size := (Array.getElem?_eq_some_iff.1 hj).1
      have := List.all_eq_true.1 h4 j (List.mem_range.2 hjs)
      rw [hj] at this
      simp only [Bool.or_eq_true] at this
      rcases this with h | h
      · exact absurd ht (dstIn_false h t hp)
      · simpa using h
    · intro j hj
      obtain ⟨l, hl⟩ := look_isSome hj
      have := List.all_eq_true.1 h5 _ hl
      simp only at this
      split at this
      · rename_i p hp
        refine ⟨p, hp, fun t ht => ?_⟩
        simp only [Bool.and_eq_true, Bool.or_eq_true] at this
        refine ⟨dstIn_false this.1 t ht, fun e => ?_⟩
        rcases this.2 with h | h
        · rw [ht] at h; simp at h
        · rw [ht, e] at h; simp at h
      · simp at this
    · exact fun t ht => dstIn_false h6 t ht
    · intro he
      rw [he] at h7
      simp only [Bool.false_eq_true, if_false, Bool.and_eq_true, Bool.not_eq_true'] at h7
      exact ⟨h7.1, Option.isSome_iff_exists.1 h7.2⟩
    · intro he
      rw [he] at h7
      simp only [if_true, Bool.or_eq_true] at h7
      refine h7.imp id fun h j p hj hp => ?_
      obtain ⟨l, hl⟩ := look_isSome hj
      have := List.all_eq_true.1 h _ hl
      simp only at this
      rw [hp] at this
      simp only [Bool.or_eq_true] at this
      exact this.imp (fun h => by simpa using h) id

theorem planOK_all : ∀ {ρ : List (Bool × Nat)} {seen : List (Nat × List Nat)} {last : Option Nat}, planOK ops ρ seen last = true → ∀ i, i < ops.size → (look i seen).isSome = true ∨ ∃ q, (q, i) ∈ ρ
  | [], seen, last, h, i, hi => by
    simp only [planOK] at h
    exact .inl (List.all_eq_true.1 h i (List.mem_range.2 hi))
  | (q, j) :: r, seen, last, h, i, hi => by
    obtain ⟨o, ho, hh⟩ := planOK_head h
    rcases planOK_all hh.tail i hi with h1 | ⟨q', h1⟩
    · rw [look_cons] at h1
      split at h1
      · rename_i e; subst e; exact .inr ⟨q, List.mem_cons_self⟩
      · exact .inl h1
    · exact .inr ⟨q', List.mem_cons_of_mem _ h1⟩

theorem planOK_later (hc : Closed ops L) : ∀ {ρ : List (Bool × Nat)} {seen : List (Nat × List Nat)} {e : Nat}, planOK ops ρ seen (some e) = true → Tab ops seen → ∀ q i o, (q, i) ∈ ρ → ops[i]? = some o → (∀ d ∈ deps o, L d) → L e
  | [], _, _, _, _, q, i, o, hm, _, _ => by simp at hm
  | (q', i') :: r, seen, e, h, ht, q, i, o, hm, ho, hd => by
    obtain ⟨o', ho', hh⟩ := planOK_head h
    rcases List.mem_cons.1 hm with h1 | h1
    · obtain ⟨rfl, rfl⟩ := Prod.mk.inj h1
      obtain rfl : o = o' := by rw [ho] at ho'; exact Option.some.inj ho'
      exact anc_in ht hc hd e (hh.chain e rfl)
    · have h2 := hh.tail
      cases he : isEff o'.op with
      | false =>
        rw [he] at h2
        exact planOK_later hc h2 (ht.cons ho') q i o h1 ho hd
      | true =>
        rw [he] at h2
        have := planOK_later hc h2 (ht.cons ho') q i o h1 ho hd
        exact anc_in ht hc (hc i' o' this ho') e (hh.chain e rfl)

theorem Head.cov {q : Bool} {i : Nat} {r : List (Bool × Nat)} {seen : List (Nat × List Nat)} {last : Option Nat} {o : Oper} (h : Head ops q i r seen last o) (ht : Tab ops seen) : Cov ops o :=
  fun _ hc hd j q t hj hq hm => anc_in ht hc hd j (h.reads j q t hj hq hm)

/-- An operation that the plan has run, and the machine has not: it would come to what the plan tells. -/
def Stable (E : Env) (Φ : Phi) (ops : Array Oper) (V : St) (o : Oper) : Prop :=
  ∃ d, o.dst = some d ∧ isCallV o.op = false ∧ ((wanted ops.toList o V = some true ∧ ∃ n v ids, evFree E Φ V.box n V.val o.op = some (v, ids) ∧ V.get d = v) ∨ (wanted ops.toList o V = some false ∧ V.get d = .tup []))

theorem wanted_congr {V V' : St} {o : Oper} (h : ∀ t ∈ o.looksAt ops, V'.get t = V.get t) : wanted ops.toList o V' = wanted ops.toList o V := by
  unfold wanted
  split
  · rfl
  · rename_i j b hg
    split
    · rename_i d hd
      have : d ∈ o.looksAt ops := by
        unfold Oper.looksAt
        rw [hg]
        refine List.mem_append_right _ ?_
        simp only [Array.getElem?_toList] at hd
        simp [hd]
      rw [h d this]
    · rfl

theorem looks_tmps {o : Oper} {t : Nat} (h : t ∈ tmpsOf o.op) : t ∈ o.looksAt ops := List.mem_append_left _ h

theorem Stable.mono {V V' : St} {o : Oper} {dst : Option Nat} (h : Stable E Φ ops V o) (hq : Quiet V V' dst) (hd : ∀ t, dst = some t → t ∉ o.looksAt ops ∧ o.dst ≠ some t) : Stable E Φ ops V' o := by
  obtain ⟨d, h1, h2, h3⟩ := h
  have hg : ∀ t ∈ o.looksAt ops, V'.get t = V.get t := fun t ht => hq.1 t fun e => (hd t e).1 ht
  have hgd : V'.get d = V.get d := hq.1 d fun e => (hd d e).2 h1
  refine ⟨d, h1, h2, ?_⟩
  rw [wanted_congr hg, hgd]
  refine h3.imp (fun ⟨h4, n, v, ids, h5, h6⟩ => ⟨h4, n, v, ids, ?_, h6⟩) id
  exact evFree_congr h2 hq.2 (val_congr fun t ht => hg t (looks_tmps ht)) h5
end
end Go.Proofs.Ytogjbacgkcodmaa.Flat
/-
A region whose order the machine may choose: all orders.
-/
set_option linter.unusedVariables false
set_option linter.unusedSimpArgs false
namespace Go.Proofs.Ytogjbacgkcodmaa.Flat
section
variable {E : Env} {Φ : Phi} {ops : Array Oper} {st' : St} {X : Nat → Prop}

/-- How far the plan has come, and the machine. L: what the machine has run. V, b: behind the plan's part; a: the machine's frame. -/
structure Vir (E : Env) (Φ : Phi) (ops : Array Oper) (X : Nat → Prop) (st' : St) (N : Nat) (L : Nat → Prop) (a : Act) (w : World) (G : Gh)
    (ρ : List (Bool × Nat)) (seen : List (Nat × List Nat)) (last : Option Nat) (nid : Nat) (V : St) (b : Act) : Prop where
  plan : planOK ops ρ seen last = true
  tab : Tab ops seen
  cov : ∀ i o, (look i seen).isSome = true → ops[i]? = some o → Cov ops o
  topo : Topo ops seen
  Lin : ∀ i, L i → (look i seen).isSome = true
  eff : ∀ i o, (look i seen).isSome = true → ops[i]? = some o → isEff o.op = true → L i
  closed : Closed ops L
  rel : Rel V b w G X (fun i => nid ≤ i)
  ev : evPlan E Φ ops.toList ρ nid V = some st'
  count : nid + 8 * ρ.length = N
  defers : a.defers = b.defers
  size : a.tmps.size = b.tmps.size
  agree : ∀ t, (∀ i o, (look i seen).isSome = true → ¬ L i → ops[i]? = some o → o.dst ≠ some t) → a.tmps[t]? = b.tmps[t]?
  stab : ∀ i o, (look i seen).isSome = true → ¬ L i → ops[i]? = some o → Stable E Φ ops V o

def AtEff (ops : Array Oper) (ρ : List (Bool × Nat)) : Prop := ρ = [] ∨ ∃ q i r o, ρ = (q, i) :: r ∧ ops[i]? = some o ∧ isEff o.op = true

theorem put_getElem? {a : Act} {d t : Nat} {v : Value} : (a.put (some d) v).tmps[t]? = if d = t then (if t < a.tmps.size then some v else none) else a.tmps[t]? := by
  simp only [Act.put]
  rw [Array.getElem?_setIfInBounds]
  split
  · rename_i e; subst e; rfl
  · rfl

theorem actPut_size {a : Act} {d : Option Nat} {v : Value} : (a.put d v).tmps.size = a.tmps.size := by cases d <;> simp [Act.put]
theorem actPut_defers {a : Act} {d : Option Nat} {v : Value} : (a.put d v).defers = a.defers := by cases d <;> rfl

/-- What stands in a slot already is written there again. -/
theorem Rel.reput {V : St} {b : Act} {w : World} {G : Gh} {F : Nat → Prop} (h : Rel V b w G X F) {d : Nat} {v : Value} (hv : RV w G (V.get d) v) : Rel V (b.put (some d) v) w G X F :=
  ⟨by rw [actPut_size]; exact h.size, by rw [actPut_defers]; exact h.defers, fun i => by
    rw [Array.getD_eq_getD_getElem?, put_getElem?]
    have hi := h.slot i
    rw [Array.getD_eq_getD_getElem?] at hi
    split
    · rename_i e
      subst e
      split
      · exact hv
      · rename_i hlt
        rw [Array.getElem?_eq_none (by omega)] at hi
        exact hi
    · exact hi, h.box, h.inv, h.free⟩

theorem eval_agree {a b : Act} {x : Operand} (h : ∀ t, x = .tmp t → a.tmps[t]? = b.tmps[t]?) : a.eval x = b.eval x := by
  cases x with
  | tmp t => simp only [Act.eval, Array.getD_eq_getD_getElem?]; rw [h t rfl]
  | _ => rfl
theorem exec_agree {o : Oper} {a b : Act} (hs : ∀ cs t, o.op ≠ .select cs t) (h : ∀ t ∈ o.looksAt ops, a.tmps[t]? = b.tmps[t]?) : execOp a.eval o = execOp b.eval o :=
  execOp_congr o hs fun x hx => eval_agree fun t ht => h t (List.mem_append_left _ (List.mem_filterMap.2 ⟨.tmp t, by subst ht; simpa using hx, rfl⟩))
theorem yielded_agree {o : Oper} {a b : Act} (h : ∀ t ∈ o.looksAt ops, a.tmps[t]? = b.tmps[t]?) : Region.wanted o (yielded ops a.tmps) = Region.wanted o (yielded ops b.tmps) := by
  unfold Region.wanted
  split
  · rfl
  · rename_i j u hg
    have : yielded ops a.tmps j = yielded ops b.tmps j := by
      unfold yielded
      cases hd : (ops[j]?).bind (·.dst) with
      | none => rfl
      | some d =>
        have : d ∈ o.looksAt ops := by
          unfold Oper.looksAt
          rw [hg]
          exact List.mem_append_right _ (by simp [hd])
        simp only [Option.bind_some]
        rw [h d this]
    rw [this]

theorem mem_ready {listed : Array Bool} {i : Nat} (hs : listed.size = ops.size) : i ∈ Region.ready .any ops listed ↔ i < ops.size ∧ listed.getD i false ≠ true ∧ ∃ o, ops[i]? = some o ∧ ∀ d ∈ deps o, listed.getD d false = true := by
  unfold Region.ready
  simp only [List.mem_filter, List.mem_range, Bool.and_eq_true, Bool.not_eq_true']
  constructor
  · rintro ⟨h1, h2, h3⟩
    have hi : i < listed.size := by omega
    refine ⟨h1, ?_, ?_⟩
    · rw [Array.getD_eq_getD_getElem?, Array.getElem?_eq_getElem hi] at h2 ⊢
      simpa using h2
    · rw [Array.getElem?_eq_getElem h1] at h3 ⊢
      refine ⟨_, rfl, fun d hd => ?_⟩
      simp only [Option.map_some, Option.getD_some] at h3
      unfold deps at hd
      obtain ⟨e, he1, he2⟩ := List.mem_filterMap.1 hd
      have := Array.all_eq_true_iff_forall_mem.1 h3 e (by simpa using he1)
      split at he2
      · rename_i hb
        obtain rfl := Option.some.inj he2
        simpa [hb] using this
      · simp at he2
  · rintro ⟨h1, h2, o, h3, h4⟩
    have hi : i < listed.size := by omega
    refine ⟨h1, ?_, ?_⟩
    · rw [Array.getD_eq_getD_getElem?, Array.getElem?_eq_getElem hi] at h2 ⊢
      simpa using h2
    · rw [h3]
      simp only [Option.map_some, Option.getD_some]
      refine Array.all_eq_true_iff_forall_mem.2 fun e he => ?_
      cases hb : Region.binds .any e with
      | false => rfl
      | true =>
        have := h4 e.on (by unfold deps; exact List.mem_filterMap.2 ⟨e, by simpa using he, by simp [hb]⟩)
        simp [this]

section
variable {N : Nat} {L : Nat → Prop} {a : Act} {w : World} {G : Gh} {ρ : List (Bool × Nat)} {seen : List (Nat × List Nat)} {last : Option Nat} {nid : Nat} {V : St} {b : Act}

/-- What an operation looks at that may be run: as in the plan. -/
theorem Vir.looks (h : Vir E Φ ops X st' N L a w G ρ seen last nid V b) {o : Oper} (hc : Cov ops o) (hd : ∀ d ∈ deps o, L d) : ∀ t ∈ o.looksAt ops, a.tmps[t]? = b.tmps[t]? :=
  fun t ht => h.agree t fun i p _ hn hp hdst => hn (hc L h.closed hd i p t hp hdst ht)

theorem cov_cons {seen : List (Nat × List Nat)} (hcov : ∀ i o, (look i seen).isSome = true → ops[i]? = some o → Cov ops o) {i : Nat} {l : List Nat} {o : Oper} (ho : ops[i]? = some o) (hc : Cov ops o) :
    ∀ j p, (look j ((i, l) :: seen)).isSome = true → ops[j]? = some p → Cov ops p := by
  intro j p hj hp
  rw [look_cons] at hj
  split at hj
  · rename_i e
    subst e
    obtain rfl : o = p := by rw [ho] at hp; exact Option.some.inj hp
    exact hc
  · exact hcov j p hj hp
theorem in_cons {seen : List (Nat × List Nat)} {i j : Nat} {l : List Nat} (h : (look j ((i, l) :: seen)).isSome = true) : j = i ∨ (look j seen).isSome = true := by
  rw [look_cons] at h
  split at h
  · rename_i e; exact .inl e
  · exact .inr h
theorem in_tail {seen : List (Nat × List Nat)} {i j : Nat} {l : List Nat} (h : (look j seen).isSome = true) : (look j ((i, l) :: seen)).isSome = true := by
  rw [look_cons]
  split
  · rfl
  · exact h

/-- One operation of the plan that the machine need not have run yet. -/
theorem Vir.pure1 {q : Bool} {i : Nat} {r : List (Bool × Nat)} {o : Oper} (h : Vir E Φ ops X st' N L a w G ((q, i) :: r) seen last nid V b) (ho : ops[i]? = some o) (he : isEff o.op = false) :
    ∃ V' b', Vir E Φ ops X st' N L a w G r ((i, ancOf seen o) :: seen) last (nid + 8) V' b' := by
  obtain ⟨o', ho', hh⟩ := planOK_head h.plan
  obtain rfl : o = o' := by rw [ho] at ho'; exact Option.some.inj ho'
  obtain ⟨hq, d, hd⟩ := hh.pure he
  subst hq
  have hev := h.ev
  simp only [evPlan, Array.getElem?_toList, ho, Option.bind_some] at hev
  obtain ⟨t, hw, hev⟩ := Option.bind_eq_some_iff.1 hev
  have hnL : ¬ L i := fun hl => by have := h.Lin i hl; rw [hh.new] at this; simp at this
  have hself : ∀ t, o.dst = some t → t ∉ o.looksAt ops := hh.self
  -- the state behind it
  have key : ∃ V' v cv, V.put o.dst v = some V' ∧ RV w G v cv ∧ evPlan E Φ ops.toList r (nid + 8) V' = some st' ∧ Stable E Φ ops V' o := by
    cases t with
    | true =>
      simp only [if_true, Bool.false_eq_true, if_false] at hev
      obtain ⟨V', h1, h2⟩ := Option.bind_eq_some_iff.1 hev
      rw [evOp_free he] at h1
      obtain ⟨⟨v, ids⟩, h3, h4⟩ := Option.bind_eq_some_iff.1 h1
      obtain ⟨_, cv, _, hx⟩ := evPure_ok h.rel.sees h3 (eff_call he)
      refine ⟨V', v, cv, h4, hx, h2, ?_⟩
      have hqt := put_quiet h4
      have hg : ∀ t ∈ o.looksAt ops, V'.get t = V.get t := fun t ht => hqt.1 t fun e => hself t e ht
      refine ⟨d, hd, eff_call he, .inl ⟨by rw [wanted_congr hg]; exact hw, nid, v, ids, ?_, ?_⟩⟩
      · exact evFree_congr (eff_call he) hqt.2 (val_congr fun t ht => hg t (looks_tmps ht)) h3
      · rw [hd] at h4; exact put_slot h4
    | false =>
      simp only [Bool.false_eq_true, if_false] at hev
      obtain ⟨V', h1, h2⟩ := Option.bind_eq_some_iff.1 hev
      refine ⟨V', .tup [], undef, h1, rvSkip, h2, ?_⟩
      have hqt := put_quiet h1
      have hg : ∀ t ∈ o.looksAt ops, V'.get t = V.get t := fun t ht => hqt.1 t fun e => hself t e ht
      refine ⟨d, hd, eff_call he, .inr ⟨by rw [wanted_congr hg]; exact hw, ?_⟩⟩
      rw [hd] at h1; exact put_slot h1
  obtain ⟨V', v, cv, hput, hx, hev', hst⟩ := key
  have hqt := put_quiet hput
  refine ⟨V', b.put o.dst cv, ?_⟩
  exact {
    plan := by have := hh.tail; rw [he] at this; exact this
    tab := h.tab.cons ho
    cov := cov_cons h.cov ho (hh.cov h.tab)
    topo := ⟨⟨o, ho, hh.dep⟩, h.topo⟩
    Lin := fun j hj => in_tail (h.Lin j hj)
    eff := fun j p hj hp hep => by
      rcases in_cons hj with rfl | hj
      · obtain rfl : o = p := by rw [ho] at hp; exact Option.some.inj hp
        rw [he] at hep; simp at hep
      · exact h.eff j p hj hp hep
    closed := h.closed
    rel := ((h.rel.put hx hput).1).weaken fun i hi => by omega
    ev := hev'
    count := by have := h.count; simp only [List.length_cons] at this; omega
    defers := by rw [actPut_defers]; exact h.defers
    size := by rw [actPut_size]; exact h.size
    agree := fun t ht => by
      have hne : d ≠ t := fun e => ht i o (by rw [look_cons, if_pos rfl]; rfl) hnL ho (by rw [hd, e])
      rw [hd, put_getElem?, if_neg hne]
      exact h.agree t fun j p hj hl hp => ht j p (in_tail hj) hl hp
    stab := fun j p hj hl hp => by
      rcases in_cons hj with rfl | hj
      · obtain rfl : o = p := by rw [ho] at hp; exact Option.some.inj hp
        exact hst
      · obtain ⟨p', hp', hwar⟩ := hh.war j hj
        obtain rfl : p = p' := by rw [hp] at hp'; exact Option.some.inj hp'
        exact (h.stab j p hj hl hp).mono hqt hwar }

theorem Vir.advance : ∀ {ρ : List (Bool × Nat)} {seen : List (Nat × List Nat)} {nid : Nat} {V : St} {b : Act}, Vir E Φ ops X st' N L a w G ρ seen last nid V b →
    ∃ ρ' seen' nid' V' b', Vir E Φ ops X st' N L a w G ρ' seen' last nid' V' b' ∧ AtEff ops ρ'
  | [], seen, nid, V, b, h => ⟨[], seen, nid, V, b, h, .inl rfl⟩
  | (q, i) :: r, seen, nid, V, b, h => by
    obtain ⟨o, ho, hh⟩ := planOK_head h.plan
    cases he : isEff o.op with
    | true => exact ⟨_, _, _, _, _, h, .inr ⟨q, i, r, o, rfl, ho, he⟩⟩
    | false =>
      obtain ⟨V', b', h'⟩ := h.pure1 ho he
      exact Vir.advance h'
end
end
end Go.Proofs.Ytogjbacgkcodmaa.Flat
