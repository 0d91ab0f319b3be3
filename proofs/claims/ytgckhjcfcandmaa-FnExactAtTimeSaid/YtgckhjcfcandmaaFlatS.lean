/-
Calls: what is handed on to be read, and what comes back.
-/
import Derived.Test.YtgckhjcfcandmaaFlatR
set_option linter.unusedVariables false
set_option linter.unusedSimpArgs false
namespace Go.Proofs.Ytgckhjcfcandmaa.Flat

/-- What a call comes to. X0: the blocks of the rows and variables that are handed on. -/
def CallOK (k : Bool) (P : Program) (md : List Mode) (f : Nat) (args : List AV) (ios : List (List AV)) (ret : AV) (fin : List (List AV)) : Prop :=
  ∀ (w : World) (G : Gh) (X0 : Nat → Prop) (cargs : Array Value), cargs.size = args.length → (∀ j (h : j < args.length), RV w G args[j] (cargs.getD j undef)) →
    Inv w G (fun b => X0 b ∨ w.heap.size ≤ b) → (∀ id cs, look id (numbered 0 ios) = some cs → BoxOK w G id cs) → (∀ id, 16 ≤ id → ¬ G.al id ∧ G.μ id = none) →
    (∀ id, ios.length ≤ id → G.μ id = none) →
    Calls P f cargs w fun e w' => ∃ v G', e = .returned v ∧ Step k w w' G G' (fun b => X0 b ∨ w.heap.size ≤ b) ∧ Inv w' G' (fun b => X0 b ∨ w.heap.size ≤ b) ∧ RV w' G' ret v ∧
      (∀ i, i < ios.length → G'.μ i = G.μ i) ∧
      (mutSlots 0 md = [] → fin.length = ios.length ∧ ∀ i (h : i < fin.length), BoxOK w' G' i fin[i]) ∧
      (mutSlots 0 md ≠ [] → fin.length = (mutSlots 0 md).length ∧ ios = [] ∧ ∀ i (h : i < fin.length), ∃ x, fin[i] = [x] ∧ RV w' G' x (cargs.getD ((mutSlots 0 md).getD i 0) undef))

section
variable {P : Program} {st st' : St} {a : Act} {w : World} {G : Gh} {X F : Nat → Prop} {nid : Nat} {o : Oper}

theorem behind_cells {id : Nat} {fz : Bool} {e sz : Nat} {xs : List AV} {i off : Nat} {ad : Addr} {n c : Nat} (hk : RowOK w G id fz e sz xs) (hρ : G.ρ id = .slice (some ad) n c) {x : AV} (hx : xs[i]? = some x) {S : Cells} (hS : ∀ fl b o, G.S fl b o → S fl b o)
    (hrow : ∀ g o, (G.ρ id).ownBlock = some g → o < xs.length * sz → S true g o) : RO w S (.cptr (x.cells.drop off)) (.pointer (some (ad.add (i * sz + off)))) := by
  obtain ⟨hal, hlim, hsz, hcell, inner, ho, hr⟩ := hk
  have hil : i < xs.length := (List.getElem?_eq_some_iff.1 hx).1
  have hxm : x ∈ xs := List.mem_of_getElem? hx
  have hxl := hsz x hxm
  rw [hρ] at ho
  rcases ho.2 with ⟨h, _⟩ | ⟨g, cap, cur, h, h5, h6, h7, h8, h9, h10⟩
  · simp at h
  · simp only [Value.slice.injEq, Option.some.injEq] at h
    obtain ⟨rfl, rfl, rfl⟩ := h
    have hmul : (i + 1) * sz ≤ xs.length * sz := Nat.mul_le_mul_right _ hil
    rw [Nat.add_mul, Nat.one_mul] at hmul
    have hfl : (flat xs).length = xs.length * sz := flat_length hsz
    refine .cptr _ _ _ (fun j => inner.getD (i * sz + off + j) undef) (by rw [add_eq (ad := ⟨g, 0, none⟩) rfl]) (fun j hj => ?_) (fun j hj => ?_)
    · have hj' : off + j < sz := by simp at hj; omega
      have hlt : i * sz + off + j < xs.length * sz := by omega
      have hcl := World.ownsRow.cellAt ho (i * sz + off + j) hlt
      rw [add_eq (ad := ⟨g, 0, none⟩) rfl]
      simp only [Nat.zero_add]
      rw [add_eq rfl]
      refine ⟨⟨true, hrow g _ (by rw [hρ]; rfl) hlt⟩, ?_⟩
      rw [hcl]
      have : i * sz + off + j < inner.length := by rw [ho.1]; exact hlt
      simp [List.getD_eq_getElem?_getD, this]
    · have hj' : off + j < sz := by simp at hj; omega
      have hlt : i * sz + off + j < xs.length * sz := by omega
      have h11 := hr (i * sz + off + j) (by rw [hfl]; exact hlt)
      have h12 := flat_at hsz i (off + j) x hx hj'
      rw [drop_get hj]
      have e : (flat xs)[i * sz + off + j]'(by rw [hfl]; exact hlt) = x.cells[off + j]'(by omega) := by
        have : (flat xs)[i * sz + off + j]? = x.cells[off + j]? := by rw [← h12]; congr 1; omega
        rw [List.getElem?_eq_getElem (by rw [hfl]; exact hlt), List.getElem?_eq_getElem (by omega)] at this
        simpa using this
      rw [← e]
      exact h11.mono hS (fun _ _ _ _ => rfl)

/-- All that may be lent. -/
def Gh.full (G : Gh) (w : World) : Cells := G.more w (fun id => ∃ fz e sz xs, RowOK w G id fz e sz xs) (fun id => ∃ cs, BoxOK w G id cs)
/-- What is lent is read. -/
theorem RV.lentRO {bx : Nat → Option (List AV)} (hb : ∀ id cs, bx id = some cs → BoxOK w G id cs) : ∀ (n : Nat) {v : AV} {x : Value}, RV w G v x → RO w (G.full w) (lend bx n v) x
  | 0, v, x, _ => .undef _ _
  | n + 1, v, x, h => by
    have hS : ∀ fl b o, G.S fl b o → G.full w fl b o := fun _ _ _ hs => Or.inl hs
    unfold lend
    refine RV.mapRO (fun a v h => h.mono hS (fun _ _ _ _ => rfl)) ?_ ?_ ?_ (.slNil _ _ _ _ (fun _ => rfl)) h
    · intro id fz e sz xs hk
      exact hk.sl hS (fun g o hg ho => hk.inR ⟨_, _, _, _, hk⟩ g o hg ho)
    · intro id off b hμ
      split
      · rename_i cs hcs
        obtain ⟨b', vs, T, h1, h2, h3, h4, h5, h6⟩ := hb id cs hcs
        obtain rfl : b = b' := by rw [hμ] at h1; simpa using h1
        refine .cptr _ _ _ (fun j => vs.getD (off + j) undef) rfl (fun j hj => ?_) (fun j hj => ?_)
        · have hj' : off + j < cs.length := by simp at hj; omega
          refine ⟨⟨true, .inr ⟨rfl, (.inr ⟨id, ⟨cs, hb id cs hcs⟩, hμ⟩)⟩⟩, ?_⟩
          rw [add_eq rfl]
          simp only [World.cell?, h2]
          rw [Array.getD_eq_getD_getElem?]
          have : off + j < vs.size := by omega
          simp [this]
        · rw [drop_get hj, List.getElem_map]
          exact RV.lentRO hb n (h6 _ (by simp at hj; omega))
      · exact .undef _ _
    · intro id fz e sz xs i off ad n c hk hρ
      split
      · rename_i x hx
        exact behind_cells hk hρ hx hS (fun g o hg ho => hk.inR ⟨_, _, _, _, hk⟩ g o hg ho)
      · exact .undef _ _

theorem any_false_agg {p : AV → Bool} {cs : List AV} : AV.anys p cs = false → ∀ j (h : j < cs.length), AV.any p cs[j] = false := by
  induction cs with
  | nil => intro _ j hj; simp at hj
  | cons c cs ih =>
    intro h j hj
    simp only [AV.anys, Bool.or_eq_false_iff] at h
    cases j with
    | zero => exact h.1
    | succ j => simpa using ih h.2 j (by simpa using hj)

/-- What has no address in it is lent as it is sealed. -/
theorem RV.lentSeal {bx : Nat → Option (List AV)} {n : Nat} {v : AV} {x : Value} (h : RV w G v x) (hp : v.any isPtr = false) : lend bx (n + 1) v = v.shutV := by
  unfold lend AV.shutV
  induction h with
  | ro h => rw [h.mapO_eq, h.mapO_eq]
  | nils => rfl
  | own => rfl
  | ptr => simp [AV.any, isPtr] at hp
  | eptr => simp [AV.any, isPtr] at hp
  | agg cs vs hl hr ih =>
    simp only [AV.any, Bool.or_eq_false_iff] at hp
    rw [AV.mapO, AV.mapO, AV.mapOs_eq, AV.mapOs_eq]
    congr 1
    apply List.ext_getElem (by simp)
    intro j h1 h2
    simp only [List.getElem_map]
    exact ih j (by simpa using h1) (any_false_agg hp.2 j (by simpa using h1))
  | tup cs vs hl hr ih =>
    simp only [AV.any, Bool.or_eq_false_iff] at hp
    rw [AV.mapO, AV.mapO, AV.mapOs_eq, AV.mapOs_eq]
    congr 1
    apply List.ext_getElem (by simp)
    intro j h1 h2
    simp only [List.getElem_map]
    exact ih j (by simpa using h1) (any_false_agg hp.2 j (by simpa using h1))
  | clo f cs vs hl hr ih =>
    simp only [AV.any, Bool.or_eq_false_iff] at hp
    rw [AV.mapO, AV.mapO, AV.mapOs_eq, AV.mapOs_eq]
    congr 1
    apply List.ext_getElem (by simp)
    intro j h1 h2
    simp only [List.getElem_map]
    exact ih j (by simpa using h1) (any_false_agg hp.2 j (by simpa using h1))

theorem RowOK.plain {id : Nat} {fz : Bool} {e sz : Nat} {xs : List AV} (h : RowOK w G id fz e sz xs) {g : Nat} (hg : (G.ρ id).ownBlock = some g) : ∃ cur e, w.heap[g]? = some (.cells cur e (0, 0)) := by
  obtain ⟨_, _, _, _, inner, ho, _⟩ := h
  rcases ho.2 with ⟨h5, h6⟩ | ⟨g', cap, cur, h5, h0, h7, _⟩
  · rw [h5] at hg; simp [Value.ownBlock] at hg
  · rw [h5] at hg
    obtain rfl : g' = g := by simpa [Value.ownBlock] using hg
    exact ⟨cur, e, h7⟩
theorem Inv.full (hi : Inv w G X) {fl : Bool} {b o : Nat} (hs : G.full w fl b o) : b < w.heap.size ∧ (fl = false → b < G.nb) ∧ (fl = true → G.nb ≤ b ∧ ∃ cur e, w.heap[b]? = some (.cells cur e (0, 0))) := by
  rcases hs with hs | ⟨rfl, ⟨id, ⟨fz, e, sz, xs, hk⟩, hal, hg, _⟩ | ⟨id, ⟨cs, hb⟩, hμ⟩⟩
  · exact ⟨hi.lt fl b o hs, fun e => hi.old b o (e ▸ hs), fun e => hi.new b o (e ▸ hs)⟩
  · have := hi.row id b hal hg
    exact ⟨this.2.1, fun e => by simp at e, fun _ => ⟨this.2.2, hk.plain hg⟩⟩
  · have := hi.box id b hμ
    obtain ⟨b', vs, T, h1, h2, _⟩ := hb
    obtain rfl : b = b' := by rw [hμ] at h1; simpa using h1
    exact ⟨this.2.1, fun e => by simp at e, fun _ => ⟨this.2.2, _, _, h2⟩⟩

/-- The ghost that a call begins with to which nothing is given, only lent. -/
def Gh.lent (nb : Nat) (S : Cells) : Gh := { nb := nb, S := S, μ := fun _ => none, ρ := fun _ => .slice none 0 0, lim := fun _ => 0, al := fun _ => False }
theorem Inv.lent {S : Cells} (hnb : G.nb ≤ w.heap.size) (hS : ∀ fl b o, S fl b o → b < w.heap.size ∧ (fl = false → b < G.nb) ∧ (fl = true → G.nb ≤ b ∧ ∃ cur e, w.heap[b]? = some (.cells cur e (0, 0)))) {X : Nat → Prop} :
    Inv w (Gh.lent G.nb S) X where
  nb := hnb
  row := fun i g h => h.elim
  box := fun i b h => by simp [Gh.lent] at h
  rows := fun i j g h => h.elim
  boxes := fun i j b h => by simp [Gh.lent] at h
  rowBox := fun i j b h => h.elim
  lt := fun fl b o h => (hS fl b o h).1
  old := fun b o h => (hS false b o h).2.1 rfl
  new := fun b o h => (hS true b o h).2.2 rfl
  sBox := fun fl b o i h => by simp [Gh.lent]
  sRow := fun fl b o i h hal => hal.elim

/-- What comes back leads to nothing that is read. -/
theorem noref_agg {cs : List AV} (h : noref (.agg cs) = true) (j : Nat) (hj : j < cs.length) : noref cs[j] = true := by
  simp only [noref, AV.any, Bool.not_or, Bool.and_eq_true, Bool.not_eq_true'] at h ⊢
  exact any_false_agg h.2 j hj
theorem noref_tup {cs : List AV} (h : noref (.tup cs) = true) (j : Nat) (hj : j < cs.length) : noref cs[j] = true := by
  simp only [noref, AV.any, Bool.not_or, Bool.and_eq_true, Bool.not_eq_true'] at h ⊢
  exact any_false_agg h.2 j hj
theorem noref_clo {f : Nat} {cs : List AV} (h : noref (.clo f cs) = true) (j : Nat) (hj : j < cs.length) : noref cs[j] = true := by
  simp only [noref, AV.any, Bool.not_or, Bool.and_eq_true, Bool.not_eq_true'] at h ⊢
  exact any_false_agg h.2 j hj
theorem scal_ro {S S' : Cells} {w w' : World} {c : AV} {v : Value} (h : RO w S c v) (hc : isScal c = true) : RO w' S' c v := by
  cases h <;> simp [isScal] at hc
  · exact .int _ _ _
  · exact .bool _ _
  · exact .str _ _
theorem noref_ro {S : Cells} {v : AV} {x : Value} (h : RO w S v x) (hn : noref v = true) : ∀ (w' : World) (S' : Cells), RO w' S' v x := by
  intro w' S'
  induction h with
  | undef S v => exact .undef _ _
  | int S k n => exact .int _ _ _
  | bool S b => exact .bool _ _
  | str S s => exact .str _ _
  | slNil S fl A c h => exact .slNil _ _ _ _ h
  | sl S fl xs ad c sz cv hne => cases xs with
    | nil => exact absurd rfl hne
    | cons y r => simp [noref, AV.any, isRef] at hn
  | cptr => simp [noref, AV.any, isRef] at hn
  | agg S cs vs hl hr ih => exact .agg _ _ _ hl (fun j hj => ih j hj (noref_agg hn j hj))
  | tup S cs vs hl hr ih => exact .tup _ _ _ hl (fun j hj => ih j hj (noref_tup hn j hj))
  | clo S f cs vs hl hr ih => exact .clo _ _ _ _ hl (fun j hj => ih j hj (noref_clo hn j hj))
end
end Go.Proofs.Ytgckhjcfcandmaa.Flat
