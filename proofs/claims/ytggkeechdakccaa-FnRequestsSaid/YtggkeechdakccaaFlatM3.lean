/-
Calls: what is handed on to be read, and what comes back.
-/
import Derived.Test.YtggkeechdakccaaFlatM2
import Derived.Orders
set_option linter.unusedVariables false
set_option linter.unusedSimpArgs false
namespace Go.Proofs.Ytggkeechdakccaa.Flat
def CallOK [Kept] (P : Program) (md : List Mode) (f : Nat) (args : List AV) (ios : List (List AV)) (ret : AV) (fin : List (List AV)) : Prop :=
  ∀ (w : World) (G : Gh) (X0 : Nat → Prop) (cargs : Array Value), cargs.size = args.length → (∀ j (h : j < args.length), RV w G args[j] (cargs.getD j undef)) →
    Inv w G (fun b => X0 b ∨ w.heap.size ≤ b) → (∀ i (h : i < ios.length), BoxOK w G i ios[i]) → (∀ id, 16 ≤ id → ¬ G.al id ∧ G.μ id = none) → G.np = ios.length →
    Calls P f cargs w fun e w' => ∃ v G', e = .returned v ∧ Step false w w' G G' (fun b => X0 b ∨ w.heap.size ≤ b) ∧ Inv w' G' (fun b => X0 b ∨ w.heap.size ≤ b) ∧ RV w' G' ret v ∧
      (∀ i, i < ios.length → G'.μ i = G.μ i) ∧
      (mutSlots 0 md = [] → ios.length ≤ fin.length ∧ ∀ i (h : i < fin.length), BoxOK w' G' i fin[i]) ∧
      (mutSlots 0 md ≠ [] → ios = [] ∧ fin.length = (mutSlots 0 md).length ∧ ∀ i (h : i < fin.length), ∃ x, fin[i] = [x] ∧ RV w' G' x (cargs.getD ((mutSlots 0 md).getD i 0) undef))
section
variable {P : Program} {st st' : St} {a : Act} {w : World} {G : Gh} {X F : Nat → Prop} {nid : Nat} {o : Oper}
theorem behind_cells {id : Nat} {fz : Bool} {e sz : Nat} {xs : List AV} {i off : Nat} {ad : Addr} {n c : Nat} (hk : RowOK w G id fz e sz xs) (hρ : G.ρ id = .slice (some ad) n c) {x : AV} (hx : xs[i]? = some x) {S : Cells} (hS : ∀ fl b o, G.S fl b o → S fl b o)
    (hrow : ∀ b o, G.own id b → ((G.ρ id).ownBlock = some b → o < rowEnd G id) → S true b o) : RO w S (.cptr (x.shut.cells.drop off)) (.pointer (some (ad.add (i * sz + off)))) := by
  have hends := hk.ends
  obtain ⟨g, o0, cur, Fs, rfl, rfl, hat⟩ := hk.at hρ
  rw [hρ] at hrow hends
  refine .cptr _ _ _ (fun j => cur.getD (o0 + (i * sz + (off + j))) undef) (by rw [add_eq (ad := ⟨g, o0, none⟩) rfl]) (fun j hj => ?_) (fun j hj => ?_)
  · have hj' : off + j < x.cells.length := by rw [shut_cells] at hj; simp at hj; omega
    obtain ⟨h1, h2, h3⟩ := hat.elem hx hj'
    have h4 := hat.cellAt h1
    rw [add_eq (ad := ⟨g, o0, none⟩) rfl, add_eq rfl]
    have e1 : o0 + (i * sz + off) + j = o0 + (i * sz + (off + j)) := by omega
    simp only [e1]
    refine ⟨⟨true, hrow g _ hat.own (fun _ => ?_)⟩, h4⟩
    rw [hends]
    simp only [rowOff]
    omega
  · have hj' : off + j < x.cells.length := by rw [shut_cells] at hj; simp at hj; omega
    obtain ⟨h1, h2, h3⟩ := hat.elem hx hj'
    have e1 : (x.shut.cells.drop off)[j] = (x.cells[off + j]).shut := by simp [shut_cells]
    rw [e1]
    refine h3.shut hS (fun b hb o => hrow b o (hat.sub _ b hb).1 (fun e => ?_))
    simp only [Value.ownBlock, Option.some.injEq] at e
    exact absurd e.symm (hat.sub _ b hb).2
def Gh.full (G : Gh) (w : World) : Cells := G.more w (fun id => ∃ fz e sz xs, RowOK w G id fz e sz xs) (fun id => ∃ cs, BoxOK w G id cs)
theorem RV.lentRO {bx : Nat → Option (List AV)} (hb : ∀ id cs, bx id = some cs → BoxOK w G id cs) : ∀ (n : Nat) {v : AV} {x : Value}, RV w G v x → RO w (G.full w) (lend bx n v) x
  | 0, v, x, _ => .undef _ _
  | n + 1, v, x, h => by
    have hS : ∀ fl b o, G.S fl b o → G.full w fl b o := fun _ _ _ hs => Or.inl hs
    unfold lend
    refine RV.mapRO (fun a v h => h.mono hS (fun _ _ _ _ => rfl)) ?_ ?_ ?_ ?_ (.slNil _ _ _ _ (fun _ => rfl)) h
    · intro id fz e sz xs hk
      exact hk.sl hS (fun g o hg ho => hk.inR ⟨_, _, _, _, hk⟩ g o hg ho)
    · intro id off b hμ
      split
      · rename_i cs hcs
        obtain ⟨b', vs, T, h1, h2, h3, h4, h5, h6⟩ := hb id cs hcs
        obtain rfl : b = b' := by rw [hμ] at h1; simpa using h1
        refine .cptr _ _ _ (fun j => vs.getD (off + j) undef) rfl (fun j hj => ?_) (fun j hj => ?_)
        · have hj' : off + j < cs.length := by simp at hj; omega
          refine ⟨⟨true, .inr ⟨rfl, (.inr ⟨id, ⟨cs, hb id cs hcs⟩, hμ⟩)⟩⟩, ?_⟩
          rw [add_eq rfl]
          simp only [World.cell?, h2]
          rw [Array.getD_eq_getD_getElem?]
          have : off + j < vs.size := by omega
          simp [this]
        · rw [drop_get hj, List.getElem_map]
          exact RV.lentRO hb n (h6 _ (by simp at hj; omega))
      · exact .undef _ _
    · intro id fz e sz xs i off ad n c hk hρ
      simp only [Bool.false_eq_true, if_false]
      split
      · rename_i x hx
        exact behind_cells hk hρ hx hS (fun g o hg ho => hk.inR ⟨_, _, _, _, hk⟩ g o hg ho)
      · exact .undef _ _
    · intro id fz e sz xs i off v hv
      simp only [if_true]
      split
      · rename_i r hr
        have hk : RowOK w G id fz e sz xs := by
          cases hv with
          | ro h => cases h
          | sub _ _ _ _ _ _ _ _ _ _ _ _ hk => exact hk
        exact hv.sub_sl hr hS (fun b o hb ho => hk.inR ⟨_, _, _, _, hk⟩ b o hb ho)
      · exact .undef _ _
theorem any_false_agg {p : AV → Bool} {cs : List AV} : AV.anys p cs = false → ∀ j (h : j < cs.length), AV.any p cs[j] = false := by
  induction cs with
  | nil => intro _ j hj; simp at hj
  | cons c cs ih =>
    intro h j hj
    simp only [AV.anys, Bool.or_eq_false_iff] at h
    cases j with
    | zero => exact h.1
    | succ j => simpa using ih h.2 j (by simpa using hj)
theorem RV.lentSeal {bx : Nat → Option (List AV)} {n : Nat} {v : AV} {x : Value} (h : RV w G v x) (hp : v.any isPtr = false) : lend bx (n + 1) v = v.shutV := by
  unfold lend AV.shutV
  induction h with
  | ro h => rw [h.mapO_eq, h.mapO_eq]
  | nils => rfl
  | own => rfl
  | ptr => simp [AV.any, isPtr] at hp
  | eptr => simp [AV.any, isPtr] at hp
  | sub => simp [AV.any, isPtr] at hp
  | agg cs vs hl hr ih =>
    simp only [AV.any, Bool.or_eq_false_iff] at hp
    rw [AV.mapO, AV.mapO, AV.mapOs_eq, AV.mapOs_eq]
    congr 1
    apply List.ext_getElem (by simp)
    intro j h1 h2
    simp only [List.getElem_map]
    exact ih j (by simpa using h1) (any_false_agg hp.2 j (by simpa using h1))
  | tup cs vs hl hr ih =>
    simp only [AV.any, Bool.or_eq_false_iff] at hp
    rw [AV.mapO, AV.mapO, AV.mapOs_eq, AV.mapOs_eq]
    congr 1
    apply List.ext_getElem (by simp)
    intro j h1 h2
    simp only [List.getElem_map]
    exact ih j (by simpa using h1) (any_false_agg hp.2 j (by simpa using h1))
  | clo f cs vs hl hr ih =>
    simp only [AV.any, Bool.or_eq_false_iff] at hp
    rw [AV.mapO, AV.mapO, AV.mapOs_eq, AV.mapOs_eq]
    congr 1
    apply List.ext_getElem (by simp)
    intro j h1 h2
    simp only [List.getElem_map]
    exact ih j (by simpa using h1) (any_false_agg hp.2 j (by simpa using h1))
theorem Inv.full [Kept] (hi : Inv w G X) {fl : Bool} {b o : Nat} (hs : G.full w fl b o) : b < w.heap.size ∧ (fl = false → b < G.nb) ∧ (fl = true → G.nb ≤ b ∧ ∃ cur e, w.heap[b]? = some (.cells cur e (0, 0))) := by
  rcases hs with hs | ⟨rfl, ⟨id, ⟨fz, e, sz, xs, hk⟩, hal, hg, _⟩ | ⟨id, ⟨cs, hb⟩, hμ⟩⟩
  · exact ⟨hi.lt fl b o hs, fun e => hi.old b o (e ▸ hs), fun e => hi.new b o (e ▸ hs)⟩
  · have := hi.row id b hal hg
    exact ⟨this.2.1, fun e => by simp at e, fun _ => ⟨this.2.2, hi.plain id b hal hg⟩⟩
  · have := hi.box id b hμ
    obtain ⟨b', vs, T, h1, h2, _⟩ := hb
    obtain rfl : b = b' := by rw [hμ] at h1; simpa using h1
    exact ⟨this.2.1, fun e => by simp at e, fun _ => ⟨this.2.2, _, _, h2⟩⟩
def Gh.lent (nb : Nat) (S : Cells) : Gh := { nb := nb, S := S, μ := fun _ => none, ρ := fun _ => .slice none 0 0, lim := fun _ => 0, al := fun _ => False, own := fun _ _ => False, esz := fun _ => 0 }
theorem Inv.lent [Kept] {S : Cells} (hnb : G.nb ≤ w.heap.size) (hS : ∀ fl b o, S fl b o → b < w.heap.size ∧ (fl = false → b < G.nb) ∧ (fl = true → G.nb ≤ b ∧ ∃ cur e, w.heap[b]? = some (.cells cur e (0, 0)))) {X : Nat → Prop} (hkp : ∀ b v, Kept.block b = some v → w.heap[b]? = some v ∧ ¬ X b) :
    Inv w (Gh.lent G.nb S) X where
  nb := hnb
  kept := hkp
  row := fun i g h => h.elim
  plain := fun i g h => h.elim
  box := fun i b h => by simp [Gh.lent] at h
  rows := fun i j g h => h.elim
  boxes := fun i j b h => by simp [Gh.lent] at h
  rowBox := fun i j b h => h.elim
  lt := fun fl b o h => (hS fl b o h).1
  old := fun b o h => (hS false b o h).2.1 rfl
  new := fun b o h => (hS true b o h).2.2 rfl
  sBox := fun fl b o i h => by simp [Gh.lent]
  sRow := fun fl b o i h hal => hal.elim
theorem noref_agg {cs : List AV} (h : noref (.agg cs) = true) (j : Nat) (hj : j < cs.length) : noref cs[j] = true := by
  simp only [noref, AV.any, Bool.not_or, Bool.and_eq_true, Bool.not_eq_true'] at h ⊢
  exact any_false_agg h.2 j hj
theorem noref_tup {cs : List AV} (h : noref (.tup cs) = true) (j : Nat) (hj : j < cs.length) : noref cs[j] = true := by
  simp only [noref, AV.any, Bool.not_or, Bool.and_eq_true, Bool.not_eq_true'] at h ⊢
  exact any_false_agg h.2 j hj
theorem noref_clo {f : Nat} {cs : List AV} (h : noref (.clo f cs) = true) (j : Nat) (hj : j < cs.length) : noref cs[j] = true := by
  simp only [noref, AV.any, Bool.not_or, Bool.and_eq_true, Bool.not_eq_true'] at h ⊢
  exact any_false_agg h.2 j hj
theorem scal_ro {S S' : Cells} {w w' : World} {c : AV} {v : Value} (h : RO w S c v) (hc : isScal c = true) : RO w' S' c v := by
  cases h <;> simp [isScal] at hc
  · exact .int _ _ _
  · exact .bool _ _
  · exact .str _ _
theorem scal_agg {cs : List AV} (h : AV.scals cs = true) (j : Nat) (hj : j < cs.length) : cs[j].scal = true := by
  induction cs generalizing j with
  | nil => simp at hj
  | cons c cs ih =>
    simp only [AV.scals, Bool.and_eq_true] at h
    cases j with
    | zero => exact h.1
    | succ j => simpa using ih h.2 j (by simpa using hj)
theorem scals_append (xs ys : List AV) : AV.scals (xs ++ ys) = (AV.scals xs && AV.scals ys) := by
  induction xs with
  | nil => rfl
  | cons x xs ih => simp only [List.cons_append, AV.scals, ih, Bool.and_assoc]
theorem scals_flat {xs : List AV} (h : AV.scals xs = true) : AV.scals (flat xs) = true := by
  induction xs with
  | nil => rfl
  | cons x xs ih =>
    simp only [AV.scals, Bool.and_eq_true] at h
    rw [flat_cons, scals_append, ih h.2, Bool.and_true]
    cases x <;> first | exact h.1 | simp only [AV.cells, AV.scals, h.1, Bool.and_true] | simp [AV.scal] at h
theorem scalV_ro {S S' : Cells} {w w' : World} {c : AV} {v : Value} (h : RO w S c v) (hc : c.scal = true) : RO w' S' c v := by
  induction h with
  | gone _ _ h => exact .gone _ _ h
  | int => exact .int _ _ _
  | bool => exact .bool _ _
  | str => exact .str _ _
  | slNil _ _ _ _ h => exact .slNil _ _ _ _ h
  | sl S fl xs ad c sz cv hne => cases xs with
    | nil => exact absurd rfl hne
    | cons y r => simp [AV.scal] at hc
  | agg S cs vs hl hr ih => exact .agg _ _ _ hl (fun j hj => ih j hj (by simp only [AV.scal] at hc; exact scal_agg hc j hj))
  | _ => simp [AV.scal] at hc
theorem TR.scal {S S' : Cells} {F : Nat → Prop} {a : AV} {v : Value} (h : TR w S F a v) : a.scal = true → TR w S' F a v := by
  induction h with
  | ro F h => exact fun hs => .ro _ (scalV_ro h hs)
  | nil F e sz => exact fun _ => .nil _ _ _
  | row F e sz xs g off cap cur Fs hg hh hn hm hs hsz hc hF hd hr ih =>
    intro hsc
    simp only [AV.scal] at hsc
    exact .row _ e sz xs g off cap cur Fs hg hh hn hm hs hsz hc hF hd (fun j hj => ih j hj (scal_agg (scals_flat hsc) j hj))
theorem noref_ro {S : Cells} {v : AV} {x : Value} (h : RO w S v x) (hn : noref v = true) : ∀ (w' : World) (S' : Cells), RO w' S' v x := by
  intro w' S'
  induction h with
  | undef S v => exact .undef _ _
  | gone S v h => exact .gone _ _ h
  | int S k n => exact .int _ _ _
  | bool S b => exact .bool _ _
  | str S s => exact .str _ _
  | slNil S fl A c h => exact .slNil _ _ _ _ h
  | sl S fl xs ad c sz cv hne => cases xs with
    | nil => exact absurd rfl hne
    | cons y r => simp [noref, AV.any, isRef] at hn
  | cptr => simp [noref, AV.any, isRef] at hn
  | agg S cs vs hl hr ih => exact .agg _ _ _ hl (fun j hj => ih j hj (noref_agg hn j hj))
  | tup S cs vs hl hr ih => exact .tup _ _ _ hl (fun j hj => ih j hj (noref_tup hn j hj))
  | clo S f cs vs hl hr ih => exact .clo _ _ _ _ hl (fun j hj => ih j hj (noref_clo hn j hj))
end
end Go.Proofs.Ytggkeechdakccaa.Flat
/-
A call that only reads what it is handed.
-/
namespace Go.Proofs.Ytggkeechdakccaa.Flat
section
variable {P : Program} {st st' : St} {a : Act} {w w' : World} {G G' : Gh} {X F : Nat → Prop} {nid : Nat} {o : Oper}
noncomputable def Gh.imp (G G' : Gh) (nid np : Nat) (S : Cells) (Gv : Nat → Prop) : Gh :=
  { nb := G.nb, S := S, np := G.np
    μ := fun i => if nid ≤ i ∧ i < nid + 8 ∧ np ≤ i - nid then G'.μ (i - nid) else G.μ i
    ρ := fun i => if nid ≤ i ∧ i < nid + 8 then G'.ρ (i - nid) else G.ρ i
    lim := fun i => if nid ≤ i ∧ i < nid + 8 then G'.lim (i - nid) else G.lim i
    own := fun i => if nid ≤ i ∧ i < nid + 8 then G'.own (i - nid) else G.own i
    esz := fun i => if nid ≤ i ∧ i < nid + 8 then G'.esz (i - nid) else G.esz i
    al := fun i => (nid ≤ i ∧ i < nid + 8 ∧ G'.al (i - nid)) ∨ (¬ (nid ≤ i ∧ i < nid + 8) ∧ G.al i ∧ ¬ Gv i) }
theorem noref_own {id : Nat} {fz : Bool} {e sz : Nat} {xs : List AV} (h : noref (.own id fz e sz xs) = true) : AV.scals xs = true := by
  simpa only [noref, AV.any, isRef, Bool.not_not] using h
theorem RowOK.imp {S : Cells} {Gv : Nat → Prop} {np id : Nat} {fz : Bool} {e sz : Nat} {xs : List AV} (hk : RowOK w G' id fz e sz xs) (hS : (∀ fl b o, G'.S fl b o → S fl b o) ∨ AV.scals xs = true) (hid : id < 8) :
    RowOK w (G.imp G' nid np S Gv) (nid + id) fz e sz xs ∧ (G.imp G' nid np S Gv).ρ (nid + id) = G'.ρ id := by
  obtain ⟨h1, h2, h3, ht⟩ := hk
  have hin : nid ≤ nid + id ∧ nid + id < nid + 8 := ⟨by omega, by omega⟩
  have e1 : (G.imp G' nid np S Gv).ρ (nid + id) = G'.ρ id := by simp only [Gh.imp, if_pos hin, Nat.add_sub_cancel_left]
  have e2 : (G.imp G' nid np S Gv).lim (nid + id) = G'.lim id := by simp only [Gh.imp, if_pos hin, Nat.add_sub_cancel_left]
  have e3 : (G.imp G' nid np S Gv).own (nid + id) = G'.own id := by simp only [Gh.imp, if_pos hin, Nat.add_sub_cancel_left]
  have e4 : (G.imp G' nid np S Gv).esz (nid + id) = G'.esz id := by simp only [Gh.imp, if_pos hin, Nat.add_sub_cancel_left]
  refine ⟨⟨.inl ⟨hin.1, hin.2, by rw [Nat.add_sub_cancel_left]; exact h1⟩, e4.trans h2, by rw [e2, e1]; exact h3, ?_⟩, e1⟩
  rw [e1, e3]
  rcases hS with hS | hn
  · exact ht.mono hS (fun _ _ _ _ => rfl) (fun _ _ => rfl) (fun _ h => h)
  · exact ht.scal hn
theorem RV.imp {S : Cells} {Gv : Nat → Prop} {np : Nat} {p : Nat → Nat → AV} {v : AV} {x : Value} (h : RV w G' v x) (hp : ∀ id off b, G'.μ id = some b → RV w (G.imp G' nid np S Gv) (p id off) (.pointer (some ⟨b, off, none⟩)))
    (hS : (∀ fl b o, G'.S fl b o → S fl b o) ∨ noref v = true) (hsm : ∀ id ∈ v.rows, id < 8) :
    RV w (G.imp G' nid np S Gv) (v.mapO (fun id fz e sz xs => .own (nid + id) fz e sz xs) p (fun _ _ _ _ _ _ _ _ => .undef) (fun _ => .nils)) x := by
  have hss : ∀ (cs : List AV) (j : Nat) (h : j < cs.length), ∀ id ∈ cs[j].rows, id ∈ AV.rowss cs := by
    intro cs
    induction cs with
    | nil => intro j hj; simp at hj
    | cons c cs ih =>
      intro j hj id hm
      simp only [AV.rowss, List.mem_append]
      cases j with
      | zero => exact .inl (by simpa using hm)
      | succ j => exact .inr (ih j (by simpa using hj) id (by simpa using hm))
  induction h with
  | ro h =>
    rw [h.mapO_eq]
    rcases hS with hS | hn
    · exact .ro (h.mono hS (fun _ _ _ _ => rfl))
    · exact .ro (noref_ro h hn _ _)
  | nils => exact .nils
  | own id fz e sz xs hk =>
    obtain ⟨h1, h2⟩ := hk.imp (G := G) (nid := nid) (S := S) (Gv := Gv) (np := np) (hS.imp (fun h => h) noref_own) (hsm id (by simp [AV.rows]))
    rw [← h2]
    exact .own _ _ _ _ _ h1
  | ptr id off b hb => exact hp id off b hb
  | eptr => exact rvUndef _
  | sub => exact rvUndef _
  | agg cs vs hl hr ih =>
    rw [AV.mapO, AV.mapOs_eq]
    exact .agg _ _ (by simpa using hl) fun j hj => by
      rw [getD_map_lt]
      exact ih j (by simpa using hj) (hS.imp id fun hn => noref_agg hn j (by simpa using hj)) (fun id hm => hsm id (hss cs j (by simpa using hj) id hm))
  | tup cs vs hl hr ih =>
    rw [AV.mapO, AV.mapOs_eq]
    exact .tup _ _ (by simpa using hl) fun j hj => by
      rw [getD_map_lt]
      exact ih j (by simpa using hj) (hS.imp id fun hn => noref_tup hn j (by simpa using hj)) (fun id hm => hsm id (hss cs j (by simpa using hj) id hm))
  | clo n cs vs hl hr ih =>
    rw [AV.mapO, AV.mapOs_eq]
    exact .clo _ _ _ (by simpa using hl) fun j hj => by
      rw [getD_map_lt]
      exact ih j (by simpa using hj) (hS.imp id fun hn => noref_clo hn j (by simpa using hj)) (fun id hm => hsm id (hss cs j (by simpa using hj) id hm))
theorem small_ok {v : AV} (h : small v = true) : ∀ id ∈ v.rows, id < 8 := fun id hid => of_decide_eq_true (List.all_eq_true.1 h id hid)
theorem Inv.imp [Kept] {X0 : Nat → Prop} {G0 : Gh} {S : Cells} {Gv : Nat → Prop} {np : Nat} (hi : Inv w G X) (hX : ∀ b, w.heap.size ≤ b → X b) (hX0 : ∀ b, X0 b → X b) (hF : ∀ i, nid ≤ i → i < nid + 8 → ¬ G.al i ∧ G.μ i = none)
    (hi' : Inv w' G' (fun b => X0 b ∨ w.heap.size ≤ b)) (hstep : Step false w w' G0 G' (fun b => X0 b ∨ w.heap.size ≤ b)) (hnb : G0.nb = G.nb)
    (hrow : ∀ i g, G.al i → ¬ Gv i → G.own i g → ¬ X0 g) (hblk : ∀ i g, G.al i → ¬ Gv i → G.own i g → w'.heap[g]? = w.heap[g]?) (hbox : ∀ i b, G.μ i = some b → X0 b → ∃ j, j < np ∧ G'.μ j = some b)
    (hSG : ∀ fl b o, S fl b o → G'.S fl b o) (hSn : ∀ fl b o, S fl b o → G.S fl b o ∨ X0 b ∨ w.heap.size ≤ b) : Inv w' (G.imp G' nid np S Gv) X := by
  have hsz := hstep.size
  have hρi : ∀ {i}, nid ≤ i ∧ i < nid + 8 → (G.imp G' nid np S Gv).ρ i = G'.ρ (i - nid) := fun h => by simp only [Gh.imp, if_pos h]
  have hρo : ∀ {i}, ¬ (nid ≤ i ∧ i < nid + 8) → (G.imp G' nid np S Gv).ρ i = G.ρ i := fun h => by simp only [Gh.imp, if_neg h]
  have hli : ∀ {i}, nid ≤ i ∧ i < nid + 8 → (G.imp G' nid np S Gv).lim i = G'.lim (i - nid) := fun h => by simp only [Gh.imp, if_pos h]
  have hlo : ∀ {i}, ¬ (nid ≤ i ∧ i < nid + 8) → (G.imp G' nid np S Gv).lim i = G.lim i := fun h => by simp only [Gh.imp, if_neg h]
  have hwi : ∀ {i}, nid ≤ i ∧ i < nid + 8 → (G.imp G' nid np S Gv).own i = G'.own (i - nid) := fun h => by simp only [Gh.imp, if_pos h]
  have hwo : ∀ {i}, ¬ (nid ≤ i ∧ i < nid + 8) → (G.imp G' nid np S Gv).own i = G.own i := fun h => by simp only [Gh.imp, if_neg h]
  have hnb' : G'.nb = G.nb := hstep.nb.trans hnb
  have hμ : ∀ {i b}, (G.imp G' nid np S Gv).μ i = some b → (nid ≤ i ∧ i < nid + 8 ∧ np ≤ i - nid ∧ G'.μ (i - nid) = some b) ∨ (¬ (nid ≤ i ∧ i < nid + 8 ∧ np ≤ i - nid) ∧ G.μ i = some b) := by
    intro i b hb
    simp only [Gh.imp] at hb
    split at hb
    · rename_i h1; exact .inl ⟨h1.1, h1.2.1, h1.2.2, hb⟩
    · rename_i h1; exact .inr ⟨h1, hb⟩
  have hnew : ∀ {k b}, np ≤ k → G'.μ k = some b → ∀ i, G.μ i ≠ some b := by
    intro k b hk hkb i hb
    rcases (hi'.box k b hkb).1 with h1 | h1
    · obtain ⟨j, hj, hjb⟩ := hbox i b hb h1
      have := hi'.boxes j k b hjb hkb
      omega
    · have := (hi.box i b hb).2.1; omega
  have hold : ∀ i g, G.al i → ¬ Gv i → G.own i g → ∀ j, G'.al j → ¬ G'.own j g := by
    intro i g h1 h2 h3 j h4 h5
    rcases (hi'.row j g h4 h5).1 with h6 | h6
    · exact hrow i g h1 h2 h3 h6
    · have := (hi.row i g h1 h3).2.1; omega
  exact {
    nb := Nat.le_trans hi.nb hsz
    kept := fun b v h => ⟨(hi'.kept b v h).1, (hi.kept b v h).2⟩
    row := fun i g hal hg => by
      rcases hal with ⟨h1, h2, h3⟩ | ⟨h1, h2, h3⟩
      · rw [hwi ⟨h1, h2⟩] at hg
        obtain ⟨h4, h5, h6⟩ := hi'.row _ g h3 hg
        exact ⟨h4.elim (hX0 g) (hX g), h5, by show G.nb ≤ g; rw [← hnb']; exact h6⟩
      · rw [hwo h1] at hg
        obtain ⟨h4, h5, h6⟩ := hi.row i g h2 hg
        exact ⟨h4, Nat.lt_of_lt_of_le h5 hsz, h6⟩
    plain := fun i g hal hg => by
      rcases hal with ⟨h1, h2, h3⟩ | ⟨h1, h2, h3⟩
      · rw [hwi ⟨h1, h2⟩] at hg
        exact hi'.plain _ g h3 hg
      · rw [hwo h1] at hg
        obtain ⟨cur, e, h4⟩ := hi.plain i g h2 hg
        exact ⟨cur, e, (hblk i g h2 h3 hg).trans h4⟩
    box := fun i b hb => by
      rcases hμ hb with ⟨h1, h2, h3, hb⟩ | ⟨_, hb⟩
      · obtain ⟨h4, h5, h6⟩ := hi'.box _ b hb
        exact ⟨h4.elim (hX0 b) (hX b), h5, by show G.nb ≤ b; rw [← hnb']; exact h6⟩
      · obtain ⟨h4, h5, h6⟩ := hi.box i b hb
        exact ⟨h4, Nat.lt_of_lt_of_le h5 hsz, h6⟩
    rows := fun i j g hai haj hij hg hg' => by
      rcases hai with ⟨h1, h2, h3⟩ | ⟨h1, h2, h3⟩ <;> rcases haj with ⟨h4, h5, h6⟩ | ⟨h4, h5, h6⟩
      · rw [hwi ⟨h1, h2⟩] at hg; rw [hwi ⟨h4, h5⟩] at hg'
        exact hi'.rows _ _ g h3 h6 (by omega) hg hg'
      · rw [hwi ⟨h1, h2⟩] at hg; rw [hwo h4] at hg'
        exact hold j g h5 h6 hg' _ h3 hg
      · rw [hwo h1] at hg; rw [hwi ⟨h4, h5⟩] at hg'
        exact hold i g h2 h3 hg _ h6 hg'
      · rw [hwo h1] at hg; rw [hwo h4] at hg'
        exact hi.rows i j g h2 h5 hij hg hg'
    boxes := fun i j b hbi hbj => by
      rcases hμ hbi with ⟨h1, h2, h3, h4⟩ | ⟨_, h4⟩ <;> rcases hμ hbj with ⟨h5, h6, h7, h8⟩ | ⟨_, h8⟩
      · have := hi'.boxes _ _ b h4 h8; omega
      · exact absurd h8 (hnew h3 h4 j)
      · exact absurd h4 (hnew h7 h8 i)
      · exact hi.boxes i j b h4 h8
    rowBox := fun i j b hai hg hb => by
      rcases hμ hb with ⟨p1, p2, p3, hb⟩ | ⟨_, hb⟩
      · rcases hai with ⟨h1, h2, h3⟩ | ⟨h1, h2, h3⟩
        · rw [hwi ⟨h1, h2⟩] at hg; exact hi'.rowBox _ _ b h3 hg hb
        · rw [hwo h1] at hg
          rcases (hi'.box _ b hb).1 with h6 | h6
          · exact hrow i b h2 h3 hg h6
          · have := (hi.row i b h2 hg).2.1; omega
      · rcases hai with ⟨h1, h2, h3⟩ | ⟨h1, h2, h3⟩
        · rw [hwi ⟨h1, h2⟩] at hg
          rcases (hi'.row _ b h3 hg).1 with h6 | h6
          · obtain ⟨q, _, hq⟩ := hbox j b hb h6
            exact hi'.rowBox _ q b h3 hg hq
          · have := (hi.box j b hb).2.1; omega
        · rw [hwo h1] at hg; exact hi.rowBox i j b h2 hg hb
    lt := fun fl b o hs => hi'.lt fl b o (hSG fl b o hs)
    old := fun b o hs => by have := hi'.old b o (hSG false b o hs); rw [hnb'] at this; exact this
    new := fun b o hs => by have := hi'.new b o (hSG true b o hs); rw [hnb'] at this; exact this
    sBox := fun fl b o i hs hb => by
      rcases hμ hb with ⟨_, _, _, hb⟩ | ⟨_, hb⟩
      · exact hi'.sBox fl b o _ (hSG fl b o hs) hb
      · rcases hSn fl b o hs with h1 | h1 | h1
        · exact hi.sBox fl b o i h1 hb
        · obtain ⟨q, _, hq⟩ := hbox i b hb h1
          exact hi'.sBox fl b o q (hSG fl b o hs) hq
        · have := (hi.box i b hb).2.1; omega
    sRow := fun fl b o i hs hai hg => by
      rcases hai with ⟨h1, h2, h3⟩ | ⟨h1, h2, h3⟩
      · rw [hwi ⟨h1, h2⟩] at hg
        rw [hli ⟨h1, h2⟩, hρi ⟨h1, h2⟩]
        exact hi'.sRow fl b o _ (hSG fl b o hs) h3 hg
      · rw [hwo h1] at hg
        rw [hlo h1, hρo h1]
        rcases hSn fl b o hs with h4 | h4 | h4
        · exact hi.sRow fl b o i h4 h2 hg
        · exact absurd h4 (hrow i b h2 h3 hg)
        · have := (hi.row i b h2 hg).2.1; omega }
theorem evRo_ok [Kept] {k : Bool} {Φ : Phi} {md : List Mode} {n : Nat} {args : List AV} {cargs : Array Value} {v : AV} {ids : List Nat} (h : Rel st a w G X F) (hX : ∀ b, w.heap.size ≤ b → X b) (hF : ∀ i, nid ≤ i → i < nid + 8 → F i)
    (hΦ : ∀ args ret fin, Φ n args [] = some (ret, fin) → CallOK P md n args [] ret fin) (hl : cargs.size = args.length) (hargs : ∀ j (h : j < args.length), RV w G args[j] (cargs.getD j undef))
    (he : evRo Φ st.box nid n args = some (v, ids)) (hp : (st.freeze ids).put o.dst v = some st') :
    Calls P n cargs w fun e w' => ∃ x G', e = .returned x ∧ Step k w w' G G' X ∧ Rel st' (a.put o.dst x) w' G' X (fun i => F i ∧ ¬ (nid ≤ i ∧ i < nid + 8)) := by
  have hFn : ∀ i, nid ≤ i → i < nid + 8 → ¬ G.al i ∧ G.μ i = none := fun i h1 h2 => h.free i (hF i h1 h2)
  unfold evRo at he
  obtain ⟨⟨ret, fin⟩, hret, he⟩ := Option.bind_eq_some_iff.1 he
  simp only at he
  cases fin with
  | cons _ _ => simp at he
  | nil =>
    simp only at he
    split at he
    · rename_i hsm
      have hsm' := small_ok hsm
      -- the state behind the call, once S is chosen
      have fin : ∀ (G1 : Gh) (S : Cells) (st1 : St) (w' : World) (G' : Gh) (x : Value), Rel st1 a w G1 X F → Step false w w G G1 X → (∀ i, nid ≤ i → i < nid + 8 → ¬ G1.al i ∧ G1.μ i = none) →
          Step false w w' (Gh.lent G.nb S) G' (fun b => False ∨ w.heap.size ≤ b) → Inv w' G' (fun b => False ∨ w.heap.size ≤ b) → RV w' G' ret x → G1.nb = G.nb → (∀ fl b o, G1.S fl b o → S fl b o) →
          ((∀ fl b o, S fl b o → G1.S fl b o) ∨ noref ret = true) → st1.put o.dst (import_ nid ret) = some st' →
          ∃ G2, Step k w w' G G2 X ∧ Rel st' (a.put o.dst x) w' G2 X (fun i => F i ∧ ¬ (nid ≤ i ∧ i < nid + 8)) := by
        intro G1 S st1 w' G' x hr1 hs1 hF1 hstep hinv' hrv hnb hS1 hor hput
        have hblk : ∀ b, b < w.heap.size → w'.heap[b]? = w.heap[b]? := fun b hb => hstep.block b hb (by simp; omega)
        have main : ∀ (S2 : Cells), (∀ fl b o, G1.S fl b o → S2 fl b o) → (∀ fl b o, S2 fl b o → G'.S fl b o) → (∀ fl b o, S2 fl b o → G1.S fl b o ∨ (fl = true ∧ w.heap.size ≤ b)) → ((∀ fl b o, G'.S fl b o → S2 fl b o) ∨ noref ret = true) →
            ∃ G2, Step k w w' G G2 X ∧ Rel st' (a.put o.dst x) w' G2 X (fun i => F i ∧ ¬ (nid ≤ i ∧ i < nid + 8)) := by
          intro S2 h1 h2 h3 h4
          have hcell : ∀ fl b o, G1.S fl b o → w'.cell? ⟨b, o, none⟩ = w.cell? ⟨b, o, none⟩ := fun fl b o hs => World.cell?_of_block (hblk b (hr1.inv.lt fl b o hs))
          have hinv2 : Inv w' (G1.imp G' nid 8 S2 (fun _ => False)) X := hr1.inv.imp (X0 := fun _ => False) (G0 := Gh.lent G.nb S) hX (fun _ h => h.elim) hF1 hinv' hstep (by rw [hnb]; rfl) (fun _ _ _ _ _ h => h) (fun i g hal _ hg => hblk g (hr1.inv.row i g hal hg).2.1) (fun _ _ _ h => h.elim) h2
            (fun fl b o hs => (h3 fl b o hs).imp id fun h => .inr h.2)
          have hkeep : Keep w w' G1 (G1.imp G' nid 8 S2 (fun _ => False)) (fun _ => False) := {
            S := h1
            cell := hcell
            row := fun i _ hal => by
              have hne : ¬ (nid ≤ i ∧ i < nid + 8) := fun h => (hF1 i h.1 h.2).1 hal
              exact ⟨.inr ⟨hne, hal, fun h => h⟩, by simp only [Gh.imp, if_neg hne], by simp only [Gh.imp, if_neg hne], by simp only [Gh.imp, if_neg hne], fun g hg => ⟨by simp only [Gh.imp, if_neg hne]; exact hg, hblk g (hr1.inv.row i g hal hg).2.1⟩⟩
            box := fun i b hb => by
              show (if nid ≤ i ∧ i < nid + 8 ∧ 8 ≤ i - nid then G'.μ (i - nid) else G1.μ i) = some b
              rw [if_neg (by omega)]; exact hb }
          have hr2 : Rel st1 a w' (G1.imp G' nid 8 S2 (fun _ => False)) X (fun i => F i ∧ ¬ (nid ≤ i ∧ i < nid + 8)) := hr1.keep hkeep (fun i b hb => hblk b (hr1.inv.box i b hb).2.1) hinv2 (fun i hi => by
            obtain ⟨h5, h6⟩ := hr1.free i hi.1
            refine ⟨fun hal => ?_, by show (if nid ≤ i ∧ i < nid + 8 ∧ 8 ≤ i - nid then G'.μ (i - nid) else G1.μ i) = none; rw [if_neg (by omega)]; exact h6⟩
            rcases hal with ⟨h7, h8, _⟩ | ⟨_, h7, _⟩
            · exact hi.2 ⟨h7, h8⟩
            · exact h5 h7)
          have hx := hrv.imp (G := G1) (nid := nid) (np := 8) (S := S2) (Gv := fun _ => False) (p := fun _ _ => .undef) (fun _ _ _ _ => rvUndef _) h4 hsm'
          have hs2 : Step false w w' G1 (G1.imp G' nid 8 S2 (fun _ => False)) X := ⟨hstep.os, hstep.tape, hstep.output, hstep.size, fun b hb hx => hblk b hb, rfl, fun fl b o _ hs => h1 fl b o hs, fun fl b o _ hs => hcell fl b o hs, fun fl b o hs => (h3 fl b o hs).imp id fun h => ⟨h.1, .inr h.2⟩, rfl, fun i b _ hb => hkeep.box i b hb⟩
          exact ⟨_, Step.weaken (hs1.trans hs2), (hr2.put hx hput).1⟩
        rcases hor with hor | hn
        · refine main G'.S (fun fl b o hs => hstep.S fl b o (.inl rfl) (hS1 fl b o hs)) (fun _ _ _ hs => hs) (fun fl b o hs => ?_) (.inl fun _ _ _ hs => hs)
          rcases hstep.newS fl b o hs with h1 | ⟨h1, h2⟩
          · exact .inl (hor fl b o h1)
          · exact .inr ⟨h1, h2.elim (fun h => h.elim (fun h => h.elim) id) id⟩
        · exact main G1.S (fun _ _ _ hs => hs) (fun fl b o hs => hstep.S fl b o (.inl rfl) (hS1 fl b o hs)) (fun _ _ _ hs => .inl hs) (.inr hn)
      -- the call
      have call : ∀ (G1 : Gh) (S : Cells) (st1 : St), Rel st1 a w G1 X F → Step false w w G G1 X → (∀ i, nid ≤ i → i < nid + 8 → ¬ G1.al i ∧ G1.μ i = none) → G1.nb = G.nb → (∀ fl b o, G1.S fl b o → S fl b o) →
          ((∀ fl b o, S fl b o → G1.S fl b o) ∨ noref ret = true) → st1.put o.dst (import_ nid ret) = some st' →
          (∀ fl b o, S fl b o → b < w.heap.size ∧ (fl = false → b < G.nb) ∧ (fl = true → G.nb ≤ b ∧ ∃ cur e, w.heap[b]? = some (.cells cur e (0, 0)))) →
          (∀ j (h : j < args.length), RO w S (lend st.box 4 args[j]) (cargs.getD j undef)) →
          Calls P n cargs w fun e w' => ∃ x G', e = .returned x ∧ Step k w w' G G' X ∧ Rel st' (a.put o.dst x) w' G' X (fun i => F i ∧ ¬ (nid ≤ i ∧ i < nid + 8)) := by
        intro G1 S st1 hr1 hs1 hF1 hnb hS1 hor hput hS hro
        have hc := hΦ _ _ _ hret w (Gh.lent G.nb S) (fun _ => False) cargs (by simpa using hl) (fun j hj => by
            rw [List.getElem_map]; exact .ro (hro j (by simpa using hj)))
          (Inv.lent h.inv.nb hS (fun b v hb => ⟨(h.inv.kept b v hb).1, fun h9 => h9.elim id fun h9 => by have := heap_lt (h.inv.kept b v hb).1; omega⟩)) (fun i hi => by simp at hi) (fun _ _ => ⟨fun h => h, rfl⟩) rfl
        refine hc.mono ?_
        rintro e w' ⟨x, G', rfl, hstep, hinv', hrv, _⟩
        obtain ⟨G2, h1, h2⟩ := fin G1 S st1 w' G' x hr1 hs1 hF1 hstep hinv' hrv hnb hS1 hor hput
        exact ⟨x, G2, rfl, h1, h2⟩
      split at he
      · rename_i hn
        obtain ⟨rfl, rfl⟩ := Prod.mk.inj (Option.some.inj he)
        exact call G (G.full w) st h (Step.refl _ _ _ _) hFn rfl (fun _ _ _ hs => .inl hs) (.inr hn) (by simpa [St.freeze] using hp) (fun fl b o hs => h.inv.full hs) (fun j hj => (hargs j hj).lentRO h.box 4)
      · split at he
        · simp at he
        · rename_i hnp
          obtain ⟨rfl, rfl⟩ := Prod.mk.inj (Option.some.inj he)
          have hids : ∀ id ∈ args.flatMap AV.rows, ∃ fz e sz xs, RowOK w G id fz e sz xs := by
            intro id hid
            obtain ⟨v, hv, hm⟩ := List.mem_flatMap.1 hid
            obtain ⟨j, hj, rfl⟩ := List.getElem_of_mem hv
            exact (hargs j hj).rows_al id hm
          obtain ⟨hr1, hs1⟩ := h.freeze hids
          refine call (G.freeze w (args.flatMap AV.rows)) (G.freeze w (args.flatMap AV.rows)).S _ hr1 hs1 hFn rfl (fun _ _ _ hs => hs) (.inl fun _ _ _ hs => hs) hp (fun fl b o hs => ⟨hr1.inv.lt fl b o hs, fun e => hr1.inv.old b o (e ▸ hs), fun e => hr1.inv.new b o (e ▸ hs)⟩) (fun j hj => ?_)
          have hnp' : args[j].any isPtr = false := by
            cases hb : args[j].any isPtr with
            | false => rfl
            | true => exact absurd (List.any_eq_true.2 ⟨_, List.getElem_mem hj, hb⟩) hnp
          rw [(hargs j hj).lentSeal hnp']
          exact (hargs j hj).shutV fun id hid => List.mem_flatMap.2 ⟨_, List.getElem_mem hj, hid⟩
    · simp at he
end
end Go.Proofs.Ytggkeechdakccaa.Flat
/-
Names are given anew: what is kept at a loop's head, and what is handed back.
-/
namespace Go.Proofs.Ytggkeechdakccaa.Flat
section
variable {w : World} {G : Gh} {X : Nat → Prop}
theorem idx_get {g : List Nat} {id : Nat} (h : id ∈ g) : g[idx g id]? = some id := by
  induction g with
  | nil => simp at h
  | cons j r ih =>
    simp only [idx]
    split
    · rename_i e; subst e; simp
    · rename_i e
      rw [List.getElem?_cons_succ]
      exact ih ((List.mem_cons.1 h).resolve_left e)
theorem nodupB_get {g : List Nat} (h : nodupB g = true) : ∀ (i j : Nat) (x : Nat), g[i]? = some x → g[j]? = some x → i = j := by
  induction g with
  | nil => intro i j x hi; simp at hi
  | cons y r ih =>
    simp only [nodupB, Bool.and_eq_true, Bool.not_eq_true', decide_eq_false_iff_not] at h
    intro i j x hi hj
    cases i with
    | zero =>
      cases j with
      | zero => rfl
      | succ j =>
        simp only [List.getElem?_cons_zero, Option.some.injEq] at hi
        subst hi
        rw [List.getElem?_cons_succ] at hj
        exact absurd (List.mem_of_getElem? hj) h.1
    | succ i =>
      cases j with
      | zero =>
        simp only [List.getElem?_cons_zero, Option.some.injEq] at hj
        subst hj
        rw [List.getElem?_cons_succ] at hi
        exact absurd (List.mem_of_getElem? hi) h.1
      | succ j =>
        rw [List.getElem?_cons_succ] at hi hj
        rw [ih h.2 i j x hi hj]
def Gh.ren (G : Gh) (g b : List Nat) : Gh :=
  { nb := G.nb, S := G.S, μ := fun i => (b[i]?).bind G.μ, ρ := fun i => G.ρ (g.getD i 0), lim := fun i => G.lim (g.getD i 0), al := fun i => ∃ id, g[i]? = some id ∧ G.al id, own := fun i => G.own (g.getD i 0), esz := fun i => G.esz (g.getD i 0), np := G.np }
theorem getD_of {g : List Nat} {i id : Nat} (h : g[i]? = some id) : g.getD i 0 = id := by rw [List.getD_eq_getElem?_getD, h]; rfl
theorem Inv.ren [Kept] (hi : Inv w G X) {g b : List Nat} (hg : nodupB g = true) (hb : nodupB b = true) : Inv w (G.ren g b) X where
  nb := hi.nb
  kept := hi.kept
  row := fun i k ⟨id, h1, h2⟩ hk => by simp only [Gh.ren, getD_of h1] at hk; exact hi.row id k h2 hk
  plain := fun i k ⟨id, h1, h2⟩ hk => by simp only [Gh.ren, getD_of h1] at hk; exact hi.plain id k h2 hk
  box := fun i k hk => by
    obtain ⟨id, h1, h2⟩ := Option.bind_eq_some_iff.1 hk
    exact hi.box id k h2
  rows := fun i j k ⟨id, h1, h2⟩ ⟨jd, h3, h4⟩ hne hk hk' => by
    simp only [Gh.ren, getD_of h1] at hk
    simp only [Gh.ren, getD_of h3] at hk'
    exact hi.rows id jd k h2 h4 (fun e => hne (nodupB_get hg i j jd (by rw [h1, e]) h3)) hk hk'
  boxes := fun i j k h1 h2 => by
    obtain ⟨id, h3, h4⟩ := Option.bind_eq_some_iff.1 h1
    obtain ⟨jd, h5, h6⟩ := Option.bind_eq_some_iff.1 h2
    have := hi.boxes id jd k h4 h6
    subst this
    exact nodupB_get hb i j id h3 h5
  rowBox := fun i j k ⟨id, h1, h2⟩ hk h3 => by
    simp only [Gh.ren, getD_of h1] at hk
    obtain ⟨jd, h5, h6⟩ := Option.bind_eq_some_iff.1 h3
    exact hi.rowBox id jd k h2 hk h6
  lt := hi.lt
  old := hi.old
  new := hi.new
  sBox := fun fl k o i hs h1 => by
    obtain ⟨id, h3, h4⟩ := Option.bind_eq_some_iff.1 h1
    exact hi.sBox fl k o id hs h4
  sRow := fun fl k o i hs ⟨id, h1, h2⟩ hk => by
    simp only [Gh.ren, getD_of h1] at hk ⊢
    exact hi.sRow fl k o id hs h2 hk
theorem rows_sub {cs : List AV} (j : Nat) (h : j < cs.length) : ∀ id ∈ cs[j].rows, id ∈ AV.rowss cs := by
  induction cs generalizing j with
  | nil => simp at h
  | cons c cs ih =>
    intro id hm
    simp only [AV.rowss, List.mem_append]
    cases j with
    | zero => exact .inl (by simpa using hm)
    | succ j => exact .inr (ih j (by simpa using h) id (by simpa using hm))
theorem RV.ren {v : AV} {x : Value} (h : RV w G v x) {g b : List Nat} {p : Nat → Nat → AV} (hp : ∀ id off k, G.μ id = some k → RV w (G.ren g b) (p id off) (.pointer (some ⟨k, off, none⟩))) (hr : ∀ id ∈ v.rows, id ∈ g) :
    RV w (G.ren g b) (v.mapO (fun id fz e sz xs => .own (idx g id) fz e sz xs) p (fun _ _ _ _ _ _ _ _ => .undef) (fun _ => .nils)) x := by
  induction h with
  | ro h => rw [h.mapO_eq]; exact .ro h
  | nils => exact .nils
  | own id fz e sz xs hk =>
    have hid := idx_get (hr id (by simp [AV.rows]))
    obtain ⟨h1, h2, h3, h4⟩ := hk
    have e1 : (G.ren g b).ρ (idx g id) = G.ρ id := by simp only [Gh.ren, getD_of hid]
    have e2 : (G.ren g b).lim (idx g id) = G.lim id := by simp only [Gh.ren, getD_of hid]
    have e3 : (G.ren g b).own (idx g id) = G.own id := by simp only [Gh.ren, getD_of hid]
    have e4 : (G.ren g b).esz (idx g id) = G.esz id := by simp only [Gh.ren, getD_of hid]
    rw [← e1]
    exact .own _ _ _ _ _ ⟨⟨id, hid, h1⟩, e4.trans h2, by rw [e2, e1]; exact h3, by rw [e1, e3]; exact h4⟩
  | ptr id off k hk => exact hp id off k hk
  | eptr => exact rvUndef _
  | sub => exact rvUndef _
  | agg cs vs hl _ ih =>
    rw [AV.mapO, AV.mapOs_eq]
    exact .agg _ _ (by simpa using hl) fun j hj => by
      rw [getD_map_lt]
      exact ih j (by simpa using hj) fun id hm => hr id (rows_sub j (by simpa using hj) id hm)
  | tup cs vs hl _ ih =>
    rw [AV.mapO, AV.mapOs_eq]
    exact .tup _ _ (by simpa using hl) fun j hj => by
      rw [getD_map_lt]
      exact ih j (by simpa using hj) fun id hm => hr id (rows_sub j (by simpa using hj) id hm)
  | clo n cs vs hl _ ih =>
    rw [AV.mapO, AV.mapOs_eq]
    exact .clo _ _ _ (by simpa using hl) fun j hj => by
      rw [getD_map_lt]
      exact ih j (by simpa using hj) fun id hm => hr id (rows_sub j (by simpa using hj) id hm)
theorem Step.ren (k : Bool) (g b : List Nat) (hb : ∀ i, i < G.np → b[i]? = some i) : Step k w w G (G.ren g b) X :=
  ⟨rfl, rfl, rfl, Nat.le_refl _, fun _ _ _ => rfl, rfl, fun _ _ _ _ h => h, fun _ _ _ _ _ => rfl, fun _ _ _ h => .inl h, rfl, fun i k hi hk => by show (b[i]?).bind G.μ = some k; rw [hb i hi]; exact hk⟩
theorem look_numbered {α : Type} (l : List α) (m i : Nat) : look i (numbered m l) = if m ≤ i then l[i - m]? else none := by
  induction l generalizing m with
  | nil => simp [numbered, look]
  | cons x r ih =>
    simp only [numbered, look_cons, ih]
    by_cases h : i = m
    · subst h; simp
    · rw [if_neg h]
      by_cases h2 : m ≤ i
      · rw [if_pos (by omega : m + 1 ≤ i), if_pos h2]
        have : i - m = (i - (m + 1)) + 1 := by omega
        rw [this, List.getElem?_cons_succ]
      · rw [if_neg (by omega), if_neg h2]
theorem look_keep (F : Nat → AV) (keep : List Nat) (i : Nat) : look i (keep.map fun j => (j, F j)) = if i ∈ keep then some (F i) else none := by
  induction keep with
  | nil => simp [look]
  | cons j r ih =>
    simp only [List.map_cons, look_cons, ih, List.mem_cons]
    by_cases h : i = j
    · subst h; simp
    · simp [h]
variable {st st' : St} {a : Act} {F : Nat → Prop}
theorem renameB_cell {g b : List Nat} {y : AV} (h : y.isCell = true ∨ y = .undef) : (renameB g b y).isCell = true ∨ renameB g b y = .undef := by
  unfold renameB
  cases y with
  | undef => exact .inr rfl
  | agg cs => rcases h with h | h <;> simp [AV.isCell] at h
  | tup cs => rcases h with h | h <;> simp [AV.isCell] at h
  | eptr => exact .inr rfl
  | ptr id off =>
    simp only [AV.mapO]
    split
    · exact .inl rfl
    · exact .inr rfl
  | _ => exact .inl rfl
theorem gc_ok [Kept] {np : Nat} {keep : List Nat} (hnp : G.np ≤ np) (h : Rel st a w G X F) (he : gc np keep st = some st') : ∃ G', Step false w w G G' X ∧ Rel st' a w G' X (fun i => st'.nx ≤ i) := by
  unfold gc at he
  simp only at he
  generalize hb : keptBoxes st np keep = b at he
  generalize hg : keptRows st b keep = g at he
  split at he
  · rename_i hc
    obtain ⟨h1, h2, h3, h0, h5⟩ := hc
    obtain rfl := Option.some.inj he
    have hp : ∀ id off k, G.μ id = some k → RV w (G.ren g b) (if id ∈ b then .ptr (idx b id) off else .undef) (.pointer (some ⟨k, off, none⟩)) := by
      intro id off k hk
      split
      · rename_i hm
        exact .ptr _ _ _ (by simp only [Gh.ren]; rw [idx_get hm]; exact hk)
      · exact rvUndef _
    have hsub : ∀ v, (v ∈ keep.map st.get ∨ ∃ id ∈ b, v ∈ (st.box id).getD []) → ∀ r ∈ v.rows, r ∈ g := by
      intro v hv r hr
      have : v ∈ keep.map st.get ++ b.flatMap fun id => (st.box id).getD [] := by
        rcases hv with hv | ⟨id, h6, h7⟩
        · exact List.mem_append_left _ hv
        · exact List.mem_append_right _ (List.mem_flatMap.2 ⟨id, h6, h7⟩)
      exact of_decide_eq_true (List.all_eq_true.1 (List.all_eq_true.1 h5 v this) r hr)
    refine ⟨G.ren g b, Step.ren _ _ _ (fun i hi => of_decide_eq_true (List.all_eq_true.1 h0 i (List.mem_range.2 (by omega)))), h.size, h.defers, fun i => ?_, fun i cs hcs => ?_, h.inv.ren h2 h1, fun i hi => ?_⟩
    · show RV w _ ((look i (keep.map fun j => (j, renameB g b (st.get j)))).getD .undef) _
      rw [look_keep (fun j => renameB g b (st.get j))]
      by_cases hm : i ∈ keep
      · rw [if_pos hm]
        exact (h.slot i).ren hp (hsub _ (.inl (List.mem_map.2 ⟨i, hm, rfl⟩)))
      · rw [if_neg hm]; exact rvUndef _
    · simp only [St.box, look_numbered, Nat.zero_le, if_true, Nat.sub_zero, List.getElem?_map] at hcs
      obtain ⟨id, hid, rfl⟩ := Option.map_eq_some_iff.1 hcs
      have hbm := List.mem_of_getElem? hid
      obtain ⟨ds, hds⟩ := Option.isSome_iff_exists.1 (List.all_eq_true.1 h3 id hbm)
      obtain ⟨k, vs, T, h6, h7, h8, h9, h10, h11⟩ := h.box id ds hds
      have hds' : look id st.bx = some ds := hds
      simp only [hds', Option.getD_some]
      refine ⟨k, vs, T, by simp only [Gh.ren, hid]; exact h6, h7, by simpa using h8, fun y hy => ?_, h10, fun j hj => ?_⟩
      · obtain ⟨y0, hy0, rfl⟩ := List.mem_map.1 hy
        exact renameB_cell (h9 y0 hy0)
      · rw [List.getElem_map]
        exact (h11 j (by simpa using hj)).ren hp (hsub _ (.inr ⟨id, hbm, by rw [hds]; exact List.getElem_mem _⟩))
    · have hi' : g.length + b.length ≤ i := hi
      refine ⟨?_, ?_⟩
      · rintro ⟨id, h6, _⟩
        rw [List.getElem?_eq_none (by omega)] at h6
        simp at h6
      · simp only [Gh.ren]
        rw [List.getElem?_eq_none (by omega)]
        rfl
  · simp at he
end
end Go.Proofs.Ytggkeechdakccaa.Flat
/-
A call that is handed rows and variables: what it begins with, and what comes back.
-/
namespace Go.Proofs.Ytggkeechdakccaa.Flat
section
variable {P : Program} {st st' : St} {a : Act} {w w' : World} {G G' : Gh} {X F : Nat → Prop} {nid : Nat} {o : Oper}
def Gh.hand (G : Gh) (g hs : List Nat) (S : Cells) : Gh := { G.ren g hs with S := S, np := hs.length }
def Gh.given (G : Gh) (g hs : List Nat) (b : Nat) : Prop := (∃ i ∈ g, G.al i ∧ G.own i b) ∨ ∃ i ∈ hs, G.μ i = some b
theorem Inv.hand [Kept] (hi : Inv w G X) {g hs : List Nat} (hg : nodupB g = true) (hh : nodupB hs = true) {S : Cells}
    (hS : ∀ fl b o, S fl b o → G.S fl b o ∨ (fl = true ∧ b < w.heap.size ∧ G.nb ≤ b ∧ (∃ cur e, w.heap[b]? = some (.cells cur e (0, 0))) ∧ ¬ G.given g hs b)) :
    Inv w (G.hand g hs S) (fun b => G.given g hs b ∨ w.heap.size ≤ b) := by
  have hr := hi.ren (X := X) hg hh
  have hrow : ∀ i k, (G.ren g hs).al i → (G.ren g hs).own i k → G.given g hs k := by
    rintro i k ⟨id, h1, h2⟩ hk
    simp only [Gh.ren, getD_of h1] at hk
    exact .inl ⟨id, List.mem_of_getElem? h1, h2, hk⟩
  have hbox : ∀ i k, (G.ren g hs).μ i = some k → G.given g hs k := by
    intro i k hk
    obtain ⟨id, h1, h2⟩ := Option.bind_eq_some_iff.1 hk
    exact .inr ⟨id, List.mem_of_getElem? h1, h2⟩
  exact {
    nb := hi.nb
    kept := fun b v h => ⟨(hi.kept b v h).1, fun h9 => by
      rcases h9 with (⟨i, _, h1, h2⟩ | ⟨i, _, h1⟩) | h9
      · exact (hi.kept b v h).2 (hi.row i b h1 h2).1
      · exact (hi.kept b v h).2 (hi.box i b h1).1
      · have := heap_lt (hi.kept b v h).1; omega⟩
    row := fun i k h1 h2 => ⟨.inl (hrow i k h1 h2), (hr.row i k h1 h2).2⟩
    plain := hr.plain
    box := fun i k h1 => ⟨.inl (hbox i k h1), (hr.box i k h1).2⟩
    rows := hr.rows
    boxes := hr.boxes
    rowBox := hr.rowBox
    lt := fun fl b o hs => by
      rcases hS fl b o hs with h | h
      · exact hi.lt fl b o h
      · exact h.2.1
    old := fun b o hs => by
      rcases hS false b o hs with h | h
      · exact hi.old b o h
      · simp at h
    new := fun b o hs => by
      rcases hS true b o hs with h | h
      · exact hi.new b o h
      · exact ⟨h.2.2.1, h.2.2.2.1⟩
    sBox := fun fl b o i hs h1 => by
      rcases hS fl b o hs with h | h
      · exact hr.sBox fl b o i h h1
      · exact h.2.2.2.2 (hbox i b h1)
    sRow := fun fl b o i hs h1 h2 => by
      rcases hS fl b o hs with h | h
      · exact hr.sRow fl b o i h h1 h2
      · exact absurd (hrow i b h1 h2) h.2.2.2.2 }
theorem RV.renamed {v : AV} {x : Value} {g : List Nat} (h : RV w G v x) (hs : List Nat) (hr : ∀ id ∈ v.rows, id ∈ g) : RV w (G.ren g hs) (rename g v) x := by
  unfold rename
  exact h.ren (fun _ _ _ _ => rvUndef _) hr
theorem pairs_ok : ∀ {v x : AV} {c : Value}, RV w G v c → RV w' G' x c → ∀ id y, (id, y) ∈ pairs v x → ∃ j fz e sz xs, y = .own j fz e sz xs ∧ G'.ρ j = G.ρ id ∧ RowOK w' G' j fz e sz xs ∧ j ∈ x.rows ∧ (noref x = true → AV.scals xs = true) := by
  intro v x c h
  induction h generalizing x with
  | own id0 fz0 e0 sz0 xs0 hk0 =>
    intro hx id y hm
    cases x with
    | own j fz e sz xs =>
      simp only [pairs, List.mem_singleton, Prod.mk.injEq] at hm
      obtain ⟨rfl, rfl⟩ := hm
      generalize hc : G.ρ id = c at hx
      cases hx with
      | ro h => cases h
      | own _ _ _ _ _ hk => exact ⟨j, fz, e, sz, xs, rfl, rfl, hk, by simp [AV.rows], noref_own⟩
    | _ => simp [pairs] at hm
  | agg cs vs hl hr ih =>
    intro hx id y hm
    cases x with
    | agg ds =>
      simp only [pairs] at hm
      have hds : vs.size = ds.length ∧ ∀ j (h : j < ds.length), RV w' G' ds[j] (vs.getD j undef) := by
        cases hx with
        | ro h => cases h with
          | agg _ _ _ hl2 hr2 => exact ⟨hl2, fun j hj => .ro (hr2 j hj)⟩
        | agg _ _ hl2 hr2 => exact ⟨hl2, hr2⟩
      have key : ∀ (cs ds : List AV), (id, y) ∈ pairss cs ds → ∃ j, ∃ h1 : j < cs.length, ∃ h2 : j < ds.length, (id, y) ∈ pairs cs[j] ds[j] := by
        intro cs
        induction cs with
        | nil => intro ds h; cases ds <;> simp [pairss] at h
        | cons c cs ihc =>
          intro ds h
          cases ds with
          | nil => simp [pairss] at h
          | cons d ds =>
            simp only [pairss, List.mem_append] at h
            rcases h with h | h
            · exact ⟨0, by simp, by simp, h⟩
            · obtain ⟨j, h1, h2, h3⟩ := ihc ds h
              exact ⟨j + 1, by simpa using h1, by simpa using h2, by simpa using h3⟩
      obtain ⟨j, h1, h2, h3⟩ := key cs ds hm
      obtain ⟨i, fz, e, sz, xs, p1, p2, p3, p4, p5⟩ := ih j h1 (hds.2 j h2) id y h3
      exact ⟨i, fz, e, sz, xs, p1, p2, p3, rows_sub j h2 i p4, fun hn => p5 (noref_agg hn j h2)⟩
    | _ => simp [pairs] at hm
  | ro h =>
    intro hx id y hm
    have main : ∀ {S : Cells} {v : AV} {c : Value}, RO w S v c → ∀ x, (id, y) ∈ pairs v x → False := by
      intro S v c h
      induction h with
      | agg S cs vs hl hr ih =>
        intro x hm
        cases x with
        | agg ds =>
          simp only [pairs] at hm
          have key : ∀ (cs ds : List AV), (∀ j (h : j < cs.length), ∀ x, (id, y) ∈ pairs cs[j] x → False) → (id, y) ∈ pairss cs ds → False := by
            intro cs
            induction cs with
            | nil => intro ds _ h; cases ds <;> simp [pairss] at h
            | cons c cs ihc =>
              intro ds hh h
              cases ds with
              | nil => simp [pairss] at h
              | cons d ds =>
                simp only [pairss, List.mem_append] at h
                rcases h with h | h
                · exact hh 0 (by simp) d h
                · exact ihc ds (fun j hj x hx => hh (j + 1) (by simpa using hj) x (by simpa using hx)) h
          exact key cs ds ih hm
        | _ => simp [pairs] at hm
      | _ => intro x hm; cases x <;> simp [pairs] at hm
    exact (main h x hm).elim
  | _ => intro hx id y hm; cases x <;> simp [pairs] at hm
theorem pairss_mem {cs ds : List AV} {id : Nat} {y : AV} (h : (id, y) ∈ pairss cs ds) : ∃ j, ∃ h1 : j < cs.length, ∃ h2 : j < ds.length, (id, y) ∈ pairs cs[j] ds[j] := by
  induction cs generalizing ds with
  | nil => cases ds <;> simp [pairss] at h
  | cons c cs ihc =>
    cases ds with
    | nil => simp [pairss] at h
    | cons d ds =>
      simp only [pairss, List.mem_append] at h
      rcases h with h | h
      · exact ⟨0, by simp, by simp, h⟩
      · obtain ⟨j, h1, h2, h3⟩ := ihc h
        exact ⟨j + 1, by simpa using h1, by simpa using h2, by simpa using h3⟩
theorem look_mem {α : Type} {i : Nat} {l : List (Nat × α)} {v : α} (h : look i l = some v) : (i, v) ∈ l := by
  induction l with
  | nil => simp [look] at h
  | cons p r ih =>
    obtain ⟨j, u⟩ := p
    rw [look_cons] at h
    split at h
    · rename_i e; subst e; obtain rfl := Option.some.inj h; exact List.mem_cons_self
    · exact List.mem_cons_of_mem _ (ih h)
theorem mutSlots_length (i : Nat) (args : List (Mode × AV)) : (mutSlots i (args.map Prod.fst)).length = (mutArgs args).length := by
  induction args generalizing i with
  | nil => rfl
  | cons p r ih =>
    obtain ⟨m, v⟩ := p
    cases m <;> simp [mutSlots, mutArgs, ih]
theorem mutSlots_get (n : Nat) (args : List (Mode × AV)) (q : Nat) (h : q < (mutArgs args).length) : ∃ i, (mutSlots n (args.map Prod.fst)).getD q 0 = n + i ∧ ∃ h2 : i < args.length, (mutArgs args)[q] = args[i].2 ∧ args[i].1 = .mut := by
  induction args generalizing n q with
  | nil => simp [mutArgs] at h
  | cons p r ih =>
    obtain ⟨m, v⟩ := p
    have step : ∀ (q : Nat) (h : q < (mutArgs r).length), ∃ i, (mutSlots (n + 1) (r.map Prod.fst)).getD q 0 = n + i ∧ ∃ h2 : i < ((m, v) :: r).length, (mutArgs r)[q] = ((m, v) :: r)[i].2 ∧ ((m, v) :: r)[i].1 = .mut := by
      intro q h
      obtain ⟨i, h1, h2, h3, h4⟩ := ih (n + 1) q h
      exact ⟨i + 1, by omega, by simpa using h2, by simpa using h3, by simpa using h4⟩
    cases m with
    | «mut» =>
      cases q with
      | zero => exact ⟨0, by simp [mutSlots], by simp, by simp [mutArgs], rfl⟩
      | succ q =>
        obtain ⟨i, h1, h2, h3, h4⟩ := step q (by simpa [mutArgs] using h)
        exact ⟨i, by simpa [mutSlots] using h1, h2, h3, h4⟩
    | _ =>
      obtain ⟨i, h1, h2, h3, h4⟩ := step q (by simpa [mutArgs] using h)
      exact ⟨i, by simpa [mutSlots] using h1, h2, h3, h4⟩
theorem roArgs_mem {args : List (Mode × AV)} {v : AV} (h : (Mode.ro, v) ∈ args) : v ∈ roArgs args := by
  induction args with
  | nil => simp at h
  | cons p r ih =>
    obtain ⟨m, u⟩ := p
    rcases List.mem_cons.1 h with h1 | h1
    · obtain ⟨rfl, rfl⟩ := Prod.mk.inj h1; simp [roArgs]
    · cases m <;> simp [roArgs, ih h1]
theorem roArgs_inv {args : List (Mode × AV)} {v : AV} (h : v ∈ roArgs args) : (Mode.ro, v) ∈ args := by
  induction args with
  | nil => simp [roArgs] at h
  | cons p r ih =>
    obtain ⟨m, u⟩ := p
    cases m with
    | ro =>
      simp only [roArgs, List.mem_cons] at h
      rcases h with rfl | h
      · simp
      · exact List.mem_cons_of_mem _ (ih h)
    | _ => exact List.mem_cons_of_mem _ (ih (by simpa [roArgs] using h))
theorem giveRows_give {bx : Nat → Option (List AV)} {args : List (Mode × AV)} {m : Mode} {v : AV} (hm : m = .give ∨ m = .mut) (h : (m, v) ∈ args) : ∀ id ∈ v.rows, id ∈ giveRows bx args := by
  induction args with
  | nil => simp at h
  | cons p r ih =>
    obtain ⟨n, u⟩ := p
    intro id hid
    rcases List.mem_cons.1 h with h1 | h1
    · obtain ⟨rfl, rfl⟩ := Prod.mk.inj h1
      rcases hm with rfl | rfl <;> exact List.mem_append_left _ hid
    · have := ih h1 id hid
      cases n with
      | io => cases u <;> first | exact List.mem_append_right _ this | exact this
      | ro => exact this
      | _ => exact List.mem_append_right _ this
theorem giveRows_io {bx : Nat → Option (List AV)} {args : List (Mode × AV)} {i : Nat} {cs : List AV} (h : i ∈ ioBoxes args) (hb : bx i = some cs) : ∀ id ∈ AV.rowss cs, id ∈ giveRows bx args := by
  induction args with
  | nil => simp [ioBoxes] at h
  | cons p r ih =>
    obtain ⟨n, u⟩ := p
    intro id hid
    cases n with
    | io =>
      cases u with
      | ptr j off =>
        simp only [ioBoxes, List.mem_cons] at h
        simp only [giveRows, List.mem_append]
        rcases h with rfl | h
        · exact .inl (by rw [hb]; exact hid)
        · exact .inr (ih h id hid)
      | _ => exact ih h id hid
    | ro => exact ih h id hid
    | _ => exact List.mem_append_right _ (ih h id hid)
theorem giveRows_al {args : List (Mode × AV)} {cv : Nat → Value} (hb : ∀ id cs, st.box id = some cs → BoxOK w G id cs) (h : ∀ j (h : j < args.length), RV w G args[j].2 (cv j)) : ∀ id ∈ giveRows st.box args, ∃ fz e sz xs, RowOK w G id fz e sz xs := by
  induction args generalizing cv with
  | nil => intro id hid; simp [giveRows] at hid
  | cons p r ih =>
    obtain ⟨n, u⟩ := p
    have h0 := h 0 (by simp)
    have hr := ih (cv := fun j => cv (j + 1)) fun j hj => h (j + 1) (by simpa using hj)
    intro id hid
    cases n with
    | ro => exact hr id hid
    | give =>
      rcases List.mem_append.1 hid with h1 | h1
      · exact h0.rows_al id h1
      · exact hr id h1
    | «mut» =>
      rcases List.mem_append.1 hid with h1 | h1
      · exact h0.rows_al id h1
      · exact hr id h1
    | io =>
      cases u with
      | ptr j off =>
        rcases List.mem_append.1 hid with h1 | h1
        · cases hc : st.box j with
          | none => rw [hc] at h1; simp [AV.rowss] at h1
          | some cs =>
            rw [hc] at h1
            obtain ⟨_, vs, _, _, _, _, _, _, h6⟩ := hb j cs hc
            obtain ⟨q, hq, hm⟩ := rowss_inv h1
            exact (h6 q hq).rows_al id hm
        · exact hr id h1
      | _ => exact hr id hid
theorem ioBoxes_mem {args : List (Mode × AV)} {i off : Nat} (h : (Mode.io, AV.ptr i off) ∈ args) : i ∈ ioBoxes args := by
  induction args with
  | nil => simp at h
  | cons p r ih =>
    obtain ⟨m, u⟩ := p
    rcases List.mem_cons.1 h with h1 | h1
    · obtain ⟨rfl, rfl⟩ := Prod.mk.inj h1; simp [ioBoxes]
    · have := ih h1
      cases m with
      | io => cases u <;> first | exact List.mem_cons_of_mem _ this | exact this
      | _ => exact this
theorem setBoxes_look : ∀ (hs : List Nat) (fin : List (List AV)) (k : Nat) (st : St) (id : Nat) (cs : List AV), hs.length ≤ fin.length → (setBoxes nid k hs fin st).box id = some cs →
    (∃ (i : Nat) (c : List AV), hs[i]? = some id ∧ fin[i]? = some c ∧ cs = c.map (import_ nid)) ∨ (∃ (i : Nat) (c : List AV), hs.length ≤ i ∧ id = nid + (k + i) ∧ fin[i]? = some c ∧ cs = c.map (import_ nid)) ∨ (id ∉ hs ∧ st.box id = some cs)
  | [], [], k, st, id, cs, _, h => .inr (.inr ⟨by simp, h⟩)
  | [], c :: css, k, st, id, cs, _, h => by
    simp only [setBoxes] at h
    rcases setBoxes_look [] css (k + 1) _ id cs (Nat.zero_le _) h with ⟨i, c', h1, _⟩ | ⟨i, c', _, h2, h3, h4⟩ | ⟨h1, h2⟩
    · simp at h1
    · exact .inr (.inl ⟨i + 1, c', Nat.zero_le _, by omega, by simpa using h3, h4⟩)
    · simp only [St.box, St.setBox, look_cons] at h2
      split at h2
      · rename_i e
        exact .inr (.inl ⟨0, c, Nat.zero_le _, by omega, rfl, (Option.some.inj h2).symm⟩)
      · exact .inr (.inr ⟨by simp, h2⟩)
  | i0 :: hs, [], k, st, id, cs, hl, h => by simp at hl
  | i0 :: hs, c :: css, k, st, id, cs, hl, h => by
    simp only [setBoxes] at h
    rcases setBoxes_look hs css (k + 1) _ id cs (by simpa using hl) h with ⟨i, c', h1, h2, h3⟩ | ⟨i, c', h1, h2, h3, h4⟩ | ⟨h1, h2⟩
    · exact .inl ⟨i + 1, c', by simpa using h1, by simpa using h2, h3⟩
    · exact .inr (.inl ⟨i + 1, c', by simpa using h1, by omega, by simpa using h3, h4⟩)
    · simp only [St.box, St.setBox, look_cons] at h2
      split at h2
      · rename_i e
        subst e
        exact .inl ⟨0, c, rfl, rfl, (Option.some.inj h2).symm⟩
      · rename_i e
        exact .inr (.inr ⟨fun hm => by rcases List.mem_cons.1 hm with hm | hm; exact e hm; exact h1 hm, h2⟩)
theorem setBoxes_get : ∀ (hs : List Nat) (fin : List (List AV)) (k : Nat) (st : St) (i : Nat), (setBoxes nid k hs fin st).get i = st.get i ∧ (setBoxes nid k hs fin st).nt = st.nt
  | [], [], k, st, i => ⟨rfl, rfl⟩
  | _ :: _, [], k, st, i => ⟨rfl, rfl⟩
  | [], c :: css, k, st, i => by
    simp only [setBoxes]
    obtain ⟨h1, h2⟩ := setBoxes_get [] css (k + 1) (st.setBox (nid + k) (c.map (import_ nid))) i
    exact ⟨h1, h2⟩
  | i0 :: hs, c :: css, k, st, i => by
    simp only [setBoxes]
    obtain ⟨h1, h2⟩ := setBoxes_get hs css (k + 1) (st.setBox i0 (c.map (import_ nid))) i
    exact ⟨h1, h2⟩
theorem import_cell {y : AV} (h : y.isCell = true ∨ y = .undef) : (import_ nid y).isCell = true ∨ import_ nid y = .undef := by
  unfold import_
  cases y with
  | agg cs => rcases h with h | h <;> simp [AV.isCell] at h
  | tup cs => rcases h with h | h <;> simp [AV.isCell] at h
  | undef => exact .inr rfl
  | ptr => exact .inr rfl
  | eptr => exact .inr rfl
  | _ => exact .inl rfl
theorem rename_cell {g : List Nat} {y : AV} (h : y.isCell = true ∨ y = .undef) : (rename g y).isCell = true ∨ rename g y = .undef := by
  unfold rename
  cases y with
  | agg cs => rcases h with h | h <;> simp [AV.isCell] at h
  | tup cs => rcases h with h | h <;> simp [AV.isCell] at h
  | undef => exact .inr rfl
  | ptr => exact .inr rfl
  | eptr => exact .inr rfl
  | _ => exact .inl rfl
theorem back_cell {g : List Nat} {ps : List (Nat × AV)} {y : AV} (h : y.isCell = true ∨ y = .undef) : (y.mapO (backO nid g ps) .ptr (backE g) (fun _ => .nils)).isCell = true ∨ y.mapO (backO nid g ps) .ptr (backE g) (fun _ => .nils) = .undef := by
  cases y with
  | agg cs => rcases h with h | h <;> simp [AV.isCell] at h
  | tup cs => rcases h with h | h <;> simp [AV.isCell] at h
  | undef => exact .inr rfl
  | own id fz e sz xs =>
    simp only [AV.mapO, backO]
    split
    · split
      · exact .inl rfl
      · exact .inr rfl
    · exact .inl rfl
  | eptr d id fz e sz xs i off =>
    simp only [AV.mapO, backE]
    split
    · exact .inr rfl
    · exact .inl rfl
  | _ => exact .inl rfl
end
end Go.Proofs.Ytggkeechdakccaa.Flat
/-
A call that is handed rows and variables.
-/
namespace Go.Proofs.Ytggkeechdakccaa.Flat
section
variable {P : Program} {st st' : St} {a : Act} {w w' : World} {G G' : Gh} {X F : Nat → Prop} {nid : Nat} {o : Oper}
theorem evGive_ok [Kept] {Φ : Phi} {md : List Mode} {n : Nat} {args : List (Mode × AV)} {cargs : Array Value} (h : Rel st a w G X F) (hX : ∀ b, w.heap.size ≤ b → X b) (hF : ∀ i, nid ≤ i → i < nid + 8 → F i)
    (hΦ : ∀ args ios ret fin, Φ n args ios = some (ret, fin) → CallOK P md n args ios ret fin) (hmd : args.map Prod.fst = md) (hl : cargs.size = args.length) (hargs : ∀ j (h : j < args.length), RV w G args[j].2 (cargs.getD j undef))
    (he : evGive Φ nid n args o.dst st = some st') :
    Calls P n cargs w fun e w' => ∃ x G', e = .returned x ∧ Step false w w' G G' X ∧ Rel st' (a.put o.dst x) w' G' X (fun i => F i ∧ ¬ (nid ≤ i ∧ i < nid + 8)) := by
  have hal0 := giveRows_al (cv := fun j => cargs.getD j undef) h.box hargs
  have hgv : ∀ {m v}, m = Mode.give ∨ m = Mode.mut → (m, v) ∈ args → ∀ id ∈ v.rows, id ∈ giveRows st.box args := fun hm hv => giveRows_give hm hv
  have hio : ∀ {i cs}, i ∈ ioBoxes args → st.box i = some cs → ∀ id ∈ AV.rowss cs, id ∈ giveRows st.box args := fun h1 h2 => giveRows_io h1 h2
  have hros : ∀ {v}, (Mode.ro, v) ∈ args → v ∈ roArgs args := roArgs_mem
  have hrosI : ∀ {v}, v ∈ roArgs args → (Mode.ro, v) ∈ args := roArgs_inv
  unfold evGive at he
  simp only at he
  generalize hgd : giveRows st.box args = g at he hal0 hgv hio
  generalize hhd : ioBoxes args = hs at he hio
  generalize hrd : roArgs args = ros at he hros hrosI
  split at he
  rotate_left
  · simp at he
  rename_i hc
  obtain ⟨c1, c2, c3, c4, c5, c6⟩ := hc
  have he1 := Option.bind_eq_some_iff.1 he
  clear he
  obtain ⟨⟨ret, fin⟩, hret, he⟩ := he1
  simp only at he
  generalize hids0 : (if (noref ret && fin.all fun cs => cs.all noref) = true then ([] : List Nat) else ros.flatMap AV.rows) = ids at he
  split at he
  rotate_left
  · simp at he
  rename_i hsm
  obtain ⟨s1, s2, s3⟩ := hsm
  have s1' := small_ok s1
  have hcase : (ids = [] ∧ noref ret = true ∧ ∀ i (h : i < fin.length), ∀ y ∈ fin[i], noref y = true) ∨ ids = ros.flatMap AV.rows := by
    by_cases hn : (noref ret && fin.all fun cs => cs.all noref) = true
    · rw [if_pos hn] at hids0
      simp only [Bool.and_eq_true, List.all_eq_true] at hn
      exact .inl ⟨hids0.symm, hn.1, fun i hi y hy => hn.2 _ (List.getElem_mem hi) y hy⟩
    · rw [if_neg hn] at hids0; exact .inr hids0.symm
  have hrow5 : ∀ v ∈ ros, v.any isPtr = false ∧ ∀ r ∈ v.rows, r ∉ g := by
    intro v hv
    have := List.all_eq_true.1 c5 v hv
    simp only [Bool.and_eq_true, Bool.not_eq_true', List.all_eq_true, decide_eq_false_iff_not] at this
    exact this
  have hidg : ∀ id ∈ ids, id ∉ g := by
    intro id hid
    rcases hcase with ⟨rfl, _⟩ | rfl
    · simp at hid
    · obtain ⟨v, hv, hm⟩ := List.mem_flatMap.1 hid
      exact (hrow5 v hv).2 id hm
  have hidsAl : ∀ id ∈ ids, ∃ fz e sz xs, RowOK w G id fz e sz xs := by
    intro id hid
    rcases hcase with ⟨rfl, _⟩ | rfl
    · simp at hid
    · obtain ⟨v, hv, hm⟩ := List.mem_flatMap.1 hid
      obtain ⟨j, hj, hj2⟩ := List.getElem_of_mem (hrosI hv)
      have := hargs j hj
      rw [hj2] at this
      exact this.rows_al id hm
  obtain ⟨hr1, hs1⟩ := h.freeze hidsAl
  generalize hG1 : G.freeze w ids = G1 at hr1 hs1
  have e_al : G1.al = G.al := by rw [← hG1]; rfl
  have e_ρ : G1.ρ = G.ρ := by rw [← hG1]; rfl
  have e_μ : G1.μ = G.μ := by rw [← hG1]; rfl
  have e_esz : G1.esz = G.esz := by rw [← hG1]; rfl
  have e_nb : G1.nb = G.nb := by rw [← hG1]; rfl
  have e_own : ∀ i b, i ∉ ids → G.own i b → G1.own i b := by rw [← hG1]; exact fun i b hi hb => ⟨hb, fun h => absurd h hi⟩
  have e_lim : ∀ i, i ∉ ids → G1.lim i = G.lim i := by rw [← hG1]; exact fun i hi => if_neg hi
  have e_S : ∀ fl b o, G.S fl b o → G1.S fl b o := by rw [← hG1]; exact fun _ _ _ hs => .inl hs
  have hF1 : ∀ i, nid ≤ i → i < nid + 8 → ¬ G1.al i ∧ G1.μ i = none := fun i h1 h2 => hr1.free i (hF i h1 h2)
  have hi1 := hr1.inv
  -- what may be read
  obtain ⟨S, hS1, hS2, hSro, hS3⟩ : ∃ S : Cells, (∀ fl b o, G1.S fl b o → S fl b o) ∧ (∀ fl b o, S fl b o → G1.S fl b o ∨ (fl = true ∧ ∃ id, id ∉ g ∧ G1.al id ∧ G1.own id b)) ∧
      (∀ j (hj : j < args.length), args[j].1 = .ro → RO w S (lend st.box 4 args[j].2) (cargs.getD j undef)) ∧ ((noref ret = true ∧ ∀ i (h : i < fin.length), ∀ y ∈ fin[i], noref y = true) ∨ S = G1.S) := by
    rcases hcase with ⟨hid, hnn⟩ | hid
    · refine ⟨fun fl b o => G1.S fl b o ∨ (fl = true ∧ ∃ id, id ∉ g ∧ G1.al id ∧ G1.own id b ∧ ((G1.ρ id).ownBlock = some b → o < rowEnd G id)), fun _ _ _ hs => .inl hs, fun fl b o hs => hs.imp (fun h => h) fun ⟨h1, id, h2, h3, h4, _⟩ => ⟨h1, id, h2, h3, h4⟩, fun j hj hm => ?_, .inl hnn⟩
      have hmem : args[j].2 ∈ ros := hros (by rw [← hm]; exact List.getElem_mem hj)
      obtain ⟨p1, p2⟩ := hrow5 _ hmem
      rw [(hargs j hj).lentSeal p1]
      refine ((hargs j hj).shutV (ids := args[j].2.rows) (fun _ h => h)).mono (fun fl b o hs => ?_) (fun _ _ _ _ => rfl)
      rcases hs with hs | ⟨q1, ⟨id, q2, q3, q4, q5⟩ | ⟨_, q2, _⟩⟩
      · exact .inl (e_S _ _ _ hs)
      · exact .inr ⟨q1, id, p2 id q2, by rw [e_al]; exact q3, e_own id b (by rw [hid]; simp) q4, by rw [e_ρ]; exact q5⟩
      · exact q2.elim
    · refine ⟨G1.S, fun _ _ _ hs => hs, fun _ _ _ hs => .inl hs, fun j hj hm => ?_, .inr rfl⟩
      have hmem : args[j].2 ∈ ros := hros (by rw [← hm]; exact List.getElem_mem hj)
      rw [(hargs j hj).lentSeal (hrow5 _ hmem).1, ← hG1]
      exact (hargs j hj).shutV fun id hm => by rw [hid]; exact List.mem_flatMap.2 ⟨_, hmem, hm⟩
  have hdis : ∀ i b, G1.al i → i ∉ g → G1.own i b → ¬ G1.given g hs b := by
    rintro i b h1 h2 h3 (⟨j, h4, h5, h6⟩ | ⟨j, h4, h5⟩)
    · exact hi1.rows i j b h1 h5 (fun e => h2 (e ▸ h4)) h3 h6
    · exact hi1.rowBox i j b h1 h3 h5
  have hgX : ∀ b, G1.given g hs b → X b := by
    rintro b (⟨j, _, h5, h6⟩ | ⟨j, _, h5⟩)
    · exact (hi1.row j b h5 h6).1
    · exact (hi1.box j b h5).1
  have hgl : ∀ b, G1.given g hs b → b < w.heap.size := by
    rintro b (⟨j, _, h5, h6⟩ | ⟨j, _, h5⟩)
    · exact (hi1.row j b h5 h6).2.1
    · exact (hi1.box j b h5).2.1
  have hinv0 : Inv w (G1.hand g hs S) (fun b => G1.given g hs b ∨ w.heap.size ≤ b) := hi1.hand c1 c2 fun fl b o hs => by
    rcases hS2 fl b o hs with h1 | ⟨h1, id, h2, h3, h4⟩
    · exact .inl h1
    · have := hi1.row id b h3 h4
      exact .inr ⟨h1, this.2.1, this.2.2, hi1.plain id b h3 h4, hdis id b h3 h2 h4⟩
  have hkeep : Keep w w (G.ren g hs) (G1.hand g hs S) (fun _ => False) := {
    S := fun fl b o hs => hS1 fl b o (e_S fl b o hs)
    cell := fun _ _ _ _ => rfl
    row := fun i _ hal => by
      obtain ⟨id, h1, h2⟩ := hal
      have hni : id ∉ ids := fun hm => hidg id hm (List.mem_of_getElem? h1)
      refine ⟨⟨id, h1, by rw [e_al]; exact h2⟩, by show G1.ρ _ = G.ρ _; rw [e_ρ], ?_, by show G1.esz _ = G.esz _; rw [e_esz], fun b hb => ⟨?_, rfl⟩⟩
      · show G1.lim (g.getD i 0) = G.lim (g.getD i 0)
        rw [getD_of h1]; exact e_lim id hni
      · show G1.own (g.getD i 0) b
        have hb' : G.own (g.getD i 0) b := hb
        rw [getD_of h1] at hb' ⊢
        exact e_own id b hni hb'
    box := fun i b hb => by show (hs[i]?).bind G1.μ = some b; rw [e_μ]; exact hb }
  have hargs0 : ∀ j (hj : j < (args.map (handArg st.box g hs)).length), RV w (G1.hand g hs S) (args.map (handArg st.box g hs))[j] (cargs.getD j undef) := by
    intro j hj
    rw [List.getElem_map]
    have hj' : j < args.length := by simpa using hj
    have hv := hargs j hj'
    have hm : args[j] ∈ args := List.getElem_mem hj'
    have hro := hSro j hj'
    generalize args[j] = p at hv hm hro
    obtain ⟨m, v⟩ := p
    simp only at hv hro
    cases m with
    | ro => exact .ro (hro rfl)
    | give => exact hkeep.rv (hv.renamed hs (hgv (.inl rfl) hm))
    | «mut» => exact hkeep.rv (hv.renamed hs (hgv (.inr rfl) hm))
    | io =>
      cases v with
      | ptr id off =>
        cases off with
        | zero =>
          simp only [handArg]
          have hid : id ∈ hs := by rw [← hhd]; exact ioBoxes_mem hm
          generalize cargs.getD j undef = c at hv
          cases hv with
          | ro h => cases h
          | ptr _ _ b hb => exact .ptr _ _ _ (by show (hs[idx hs id]?).bind G1.μ = some b; rw [idx_get hid, e_μ]; exact hb)
        | succ off => exact rvUndef _
      | _ => exact rvUndef _
  have hbox0 : ∀ i (hi : i < (hs.map fun id => ((st.box id).getD []).map (rename g)).length), BoxOK w (G1.hand g hs S) i (hs.map fun id => ((st.box id).getD []).map (rename g))[i] := by
    intro i hi
    rw [List.getElem_map]
    have hi' : i < hs.length := by simpa using hi
    have hgi : hs[i]? = some hs[i] := List.getElem?_eq_getElem hi'
    have hm : hs[i] ∈ hs := List.getElem_mem hi'
    obtain ⟨cs, hcs⟩ := Option.isSome_iff_exists.1 (List.all_eq_true.1 c6 _ hm)
    obtain ⟨b, vs, T, h1, h2, h3, h4, h5, h6⟩ := h.box _ cs hcs
    simp only [hcs, Option.getD_some]
    refine ⟨b, vs, T, by show (hs[i]?).bind G1.μ = some b; rw [hgi, e_μ]; exact h1, h2, by simpa using h3, fun y hy => ?_, h5, fun j hj => ?_⟩
    · obtain ⟨y0, hy0, rfl⟩ := List.mem_map.1 hy
      exact rename_cell (h4 y0 hy0)
    · rw [List.getElem_map]
      exact hkeep.rv ((h6 j (by simpa using hj)).renamed hs fun id hid => hio hm hcs id (rowss_mem (by simpa using hj) hid))
  have hcall := hΦ _ _ _ _ hret w (G1.hand g hs S) (G1.given g hs) cargs (by simpa using hl) hargs0 hinv0 hbox0 (fun id hid => by
    refine ⟨?_, ?_⟩
    · rintro ⟨i, h1, _⟩
      rw [List.getElem?_eq_none (by omega)] at h1
      simp at h1
    · show (hs[id]?).bind G1.μ = none
      rw [List.getElem?_eq_none (by omega)]; rfl) (by simp [Gh.hand])
  refine hcall.mono ?_
  rintro e w' ⟨x, G', rfl, hstep, hinv', hrv, hμ', hA, hB⟩
  have hblk : ∀ b, b < w.heap.size → ¬ G1.given g hs b → w'.heap[b]? = w.heap[b]? := fun b hb hn => hstep.block b hb (by rintro (h1 | h1); exact hn h1; omega)
  have hlenio : (hs.map fun id => ((st.box id).getD []).map (rename g)).length = hs.length := by simp
  rw [hlenio] at hμ' hA
  -- what is read behind the call
  obtain ⟨S2, t1, t2, t3, t4⟩ : ∃ S2 : Cells, (∀ fl b o, G1.S fl b o → S2 fl b o) ∧ (∀ fl b o, S2 fl b o → G'.S fl b o) ∧ (∀ fl b o, S2 fl b o → G1.S fl b o ∨ (fl = true ∧ (G1.given g hs b ∨ w.heap.size ≤ b))) ∧
      ((∀ fl b o, G'.S fl b o → S2 fl b o) ∨ (noref ret = true ∧ ∀ i (h : i < fin.length), ∀ y ∈ fin[i], noref y = true)) := by
    have hS' : ∀ fl b o, G1.S fl b o → G'.S fl b o := fun fl b o hs => hstep.S fl b o (.inl rfl) (hS1 fl b o hs)
    rcases hS3 with hn | hS3
    · exact ⟨G1.S, fun _ _ _ hs => hs, hS', fun _ _ _ hs => .inl hs, .inr hn⟩
    · refine ⟨G'.S, hS', fun _ _ _ hs => hs, fun fl b o hs => ?_, .inl fun _ _ _ hs => hs⟩
      rcases hstep.newS fl b o hs with h1 | ⟨h1, h2⟩
      · exact .inl (hS3 ▸ h1)
      · exact .inr ⟨h1, h2.elim (fun h => h) .inr⟩
  have hinv2 : Inv w' (G1.imp G' nid hs.length S2 (fun i => i ∈ g)) X := hi1.imp (X0 := G1.given g hs) (G0 := G1.hand g hs S) hX hgX hF1 hinv' hstep rfl
    (fun i b h1 h2 h3 => hdis i b h1 h2 h3) (fun i b h1 h2 h3 => hblk b (hi1.row i b h1 h3).2.1 (hdis i b h1 h2 h3))
    (fun i b h1 h2 => by
      rcases h2 with ⟨j, _, h3, h4⟩ | ⟨j, h3, h4⟩
      · exact absurd h1 (hi1.rowBox j i b h3 h4)
      · obtain rfl := hi1.boxes i j b h1 h4
        have h5 := idx_get h3
        have h6 : idx hs i < hs.length := (List.getElem?_eq_some_iff.1 h5).1
        refine ⟨idx hs i, h6, ?_⟩
        rw [hμ' _ h6]
        show (hs[idx hs i]?).bind G1.μ = some b
        rw [h5]; exact h1)
    t2 (fun fl b o hs => (t3 fl b o hs).imp (fun h => h) fun h => h.2)
  have hμ2 : ∀ id b, G1.μ id = some b → (G1.imp G' nid hs.length S2 (fun i => i ∈ g)).μ id = some b := by
    intro id b hb
    show (if nid ≤ id ∧ id < nid + 8 ∧ hs.length ≤ id - nid then G'.μ (id - nid) else G1.μ id) = some b
    rw [if_neg (fun hc => by rw [(hF1 id hc.1 hc.2.1).2] at hb; simp at hb)]
    exact hb
  have hcell : ∀ fl b o, G1.S fl b o → w'.cell? ⟨b, o, none⟩ = w.cell? ⟨b, o, none⟩ := fun fl b o hs => hstep.cell fl b o (.inl rfl) (hS1 fl b o hs)
  have hk : Keep w w' G1 (G1.imp G' nid hs.length S2 (fun i => i ∈ g)) (fun i => i ∈ g) := {
    S := t1
    cell := hcell
    row := fun i hi hal => by
      have hne : ¬ (nid ≤ i ∧ i < nid + 8) := fun hq => (hF1 i hq.1 hq.2).1 hal
      exact ⟨.inr ⟨hne, hal, hi⟩, by simp only [Gh.imp, if_neg hne], by simp only [Gh.imp, if_neg hne], by simp only [Gh.imp, if_neg hne], fun b hb => ⟨by simp only [Gh.imp, if_neg hne]; exact hb, hblk b (hi1.row i b hal hb).2.1 (hdis i b hal hi hb)⟩⟩
    box := hμ2 }
  -- the state behind the call
  have fin2 : ∀ (fin' : List (List AV)) (ps : List (Nat × AV)) (v : AV), hs.length ≤ fin'.length → fin'.length ≤ 8 → (∀ i (h : i < fin'.length), BoxOK w' G' i fin'[i]) → (∀ i (h : i < fin'.length), ∀ y ∈ fin'[i], small y = true) →
      ((∀ fl b o, G'.S fl b o → S2 fl b o) ∨ ∀ i (h : i < fin'.length), ∀ y ∈ fin'[i], noref y = true) →
      (∀ id y, (id, y) ∈ ps → ∃ j fz e sz xs, y = .own j fz e sz xs ∧ G'.ρ j = G1.ρ id ∧ RowOK w' G' j fz e sz xs ∧ j < 8 ∧ ((∀ fl b o, G'.S fl b o → S2 fl b o) ∨ AV.scals xs = true)) →
      RV w' (G1.imp G' nid hs.length S2 (fun i => i ∈ g)) v x → (setBoxes nid 0 hs fin' ((st.freeze ids).back nid g ps)).put o.dst v = some st' →
      ∃ G2, Step false w w' G G2 X ∧ Rel st' (a.put o.dst x) w' G2 X (fun i => F i ∧ ¬ (nid ≤ i ∧ i < nid + 8)) := by
    intro fin' ps v q1 q2 q3 q4 q5 q6 q7 q8
    have hback : ∀ id fz e sz xs, RowOK w G1 id fz e sz xs → RV w' (G1.imp G' nid hs.length S2 (fun i => i ∈ g)) (backO nid g ps id fz e sz xs) (G1.ρ id) := by
      intro id fz e sz xs hk1
      unfold backO
      split
      · split
        · rename_i j fz' e' sz' xs' hlk
          obtain ⟨j', fz2, e2, sz2, xs2, r1, r2, r3, r4, r5⟩ := q6 id _ (look_mem hlk)
          simp only [AV.own.injEq] at r1
          obtain ⟨rfl, rfl, rfl, rfl, rfl⟩ := r1
          obtain ⟨u1, u2⟩ := r3.imp (G := G1) (nid := nid) (np := hs.length) (S := S2) (Gv := fun i => i ∈ g) r5 r4
          rw [← r2, ← u2]
          exact .own _ _ _ _ _ u1
        · exact rvUndef _
      · rename_i hid
        have := (hk.row id hid hk1.1).2.1
        rw [← this]
        exact .own _ _ _ _ _ (hk.rowOK hid hk1)
    have hrv2 : ∀ {v : AV} {x : Value}, RV w G1 v x → RV w' (G1.imp G' nid hs.length S2 (fun i => i ∈ g)) (v.mapO (backO nid g ps) .ptr (backE g) (fun _ => .nils)) x := by
      intro v x hv
      refine RV.map (fun a v h => hk.ro h) hback (fun id off b hb => .ptr _ _ _ (hk.box _ _ hb)) ?_ ?_ .nils hv
      · intro id fz e sz xs i off ad n c hk1 hρ
        unfold backE
        split
        · exact rvUndef _
        · rename_i hid
          have := (hk.row id hid hk1.1).2.1
          exact .eptr _ _ _ _ _ _ _ _ n c (hk.rowOK hid hk1) (by rw [this]; exact hρ)
      · intro id fz e sz xs i off ad n c v x hk1 hρ hx ho hv
        unfold backE
        split
        · exact rvUndef _
        · rename_i hid
          have := (hk.row id hid hk1.1).2.1
          exact .sub _ _ _ _ _ _ _ _ n c v x (hk.rowOK hid hk1) (by rw [this]; exact hρ) hx ho (hk.place hid hk1 hρ hv)
    have hget : ∀ i, (setBoxes nid 0 hs fin' ((st.freeze ids).back nid g ps)).get i = ((st.freeze ids).get i).mapO (backO nid g ps) .ptr (backE g) (fun _ => .nils) := by
      intro i
      rw [(setBoxes_get hs fin' 0 _ i).1]
      unfold St.back
      exact St.get_mapO _ _ _ _ i
    have hrel : Rel (setBoxes nid 0 hs fin' ((st.freeze ids).back nid g ps)) a w' (G1.imp G' nid hs.length S2 (fun i => i ∈ g)) X (fun i => F i ∧ ¬ (nid ≤ i ∧ i < nid + 8)) := by
      refine ⟨by rw [(setBoxes_get hs fin' 0 _ 0).2]; exact hr1.size, hr1.defers, fun i => by rw [hget]; exact hrv2 (hr1.slot i), fun id cs hcs => ?_, hinv2, fun i hi => ?_⟩
      · have imp : ∀ {i c}, fin'[i]? = some c → (G1.imp G' nid hs.length S2 (fun i => i ∈ g)).μ id = G'.μ i → BoxOK w' (G1.imp G' nid hs.length S2 (fun i => i ∈ g)) id (c.map (import_ nid)) := by
          intro i c hc hμi
          obtain ⟨hi, rfl⟩ := List.getElem?_eq_some_iff.1 hc
          obtain ⟨b, vs, T, h1, h2, h3, h4, h5, h6⟩ := q3 i hi
          refine ⟨b, vs, T, by rw [hμi]; exact h1, h2, by simpa using h3, fun y hy => ?_, h5, fun j hj => ?_⟩
          · obtain ⟨y0, hy0, rfl⟩ := List.mem_map.1 hy
            exact import_cell (h4 y0 hy0)
          · rw [List.getElem_map]
            have hj' : j < fin'[i].length := by simpa using hj
            exact (h6 j hj').imp (p := fun _ _ => .undef) (fun _ _ _ _ => rvUndef _) (q5.imp (fun h => h) fun hn => hn i hi _ (List.getElem_mem hj')) (small_ok (q4 i hi _ (List.getElem_mem hj')))
        rcases setBoxes_look hs fin' 0 _ id cs q1 hcs with ⟨i, c, h1, h2, rfl⟩ | ⟨i, c, h1, h2, h3, rfl⟩ | ⟨h1, h2⟩
        · refine imp h2 ?_
          have hi : i < hs.length := (List.getElem?_eq_some_iff.1 h1).1
          have h3 : G'.μ i = G1.μ id := by
            rw [hμ' i hi]
            show (hs[i]?).bind G1.μ = _
            rw [h1]; rfl
          have hfi : i < fin'.length := by omega
          obtain ⟨b, _, _, h4, _⟩ := q3 i hfi
          rw [h4]
          exact hμ2 id b (by rw [← h3]; exact h4)
        · refine imp h3 ?_
          have hfi : i < fin'.length := (List.getElem?_eq_some_iff.1 h3).1
          show (if nid ≤ id ∧ id < nid + 8 ∧ hs.length ≤ id - nid then G'.μ (id - nid) else G1.μ id) = G'.μ i
          rw [if_pos ⟨by omega, by omega, by omega⟩]
          congr 1; omega
        · unfold St.back at h2
          rw [St.box_mapO] at h2
          obtain ⟨cs0, hc0, rfl⟩ := Option.map_eq_some_iff.1 h2
          obtain ⟨b, vs, T, h3, h4, h5, h6, h7, h8⟩ := hr1.box id cs0 hc0
          refine ⟨b, vs, T, hμ2 _ _ h3, (hblk b (hi1.box id b h3).2.1 ?_).trans h4, by simpa using h5, fun y hy => ?_, h7, fun j hj => ?_⟩
          · rintro (⟨i, _, r1, r2⟩ | ⟨i, r1, r2⟩)
            · exact hi1.rowBox i id b r1 r2 h3
            · exact h1 (hi1.boxes id i b h3 r2 ▸ r1)
          · obtain ⟨y0, hy0, rfl⟩ := List.mem_map.1 hy
            exact back_cell (h6 y0 hy0)
          · rw [List.getElem_map]
            exact hrv2 (h8 j (by simpa using hj))
      · obtain ⟨h5, h6⟩ := hr1.free i hi.1
        refine ⟨fun hal => ?_, ?_⟩
        · rcases hal with ⟨h7, h8, _⟩ | ⟨_, h7, _⟩
          · exact hi.2 ⟨h7, h8⟩
          · exact h5 h7
        · show (if nid ≤ i ∧ i < nid + 8 ∧ hs.length ≤ i - nid then G'.μ (i - nid) else G1.μ i) = none
          rw [if_neg (fun hq => hi.2 ⟨hq.1, hq.2.1⟩)]
          exact h6
    have hs2 : Step false w w' G1 (G1.imp G' nid hs.length S2 (fun i => i ∈ g)) X := ⟨hstep.os, hstep.tape, hstep.output, hstep.size, fun b hb hx => hblk b hb (fun hq => hx (hgX b hq)), rfl, fun fl b o _ hs => t1 fl b o hs, fun fl b o _ hs => hcell fl b o hs,
      fun fl b o hs => (t3 fl b o hs).imp (fun h => h) fun h => ⟨h.1, h.2.imp (hgX b) (fun h => h)⟩, rfl, fun i b _ hb => hμ2 i b hb⟩
    exact ⟨_, hs1.trans hs2, (hrel.put q7 q8).1⟩
  have hsmall : ∀ i (h : i < fin.length), ∀ y ∈ fin[i], small y = true := fun i hi y hy => List.all_eq_true.1 (List.all_eq_true.1 s2 _ (List.getElem_mem hi)) y hy
  have hnil : (mutSlots 0 md = []) ↔ mutArgs args = [] := by
    rw [← hmd, ← List.length_eq_zero_iff, mutSlots_length 0 args, List.length_eq_zero_iff]
  split at he
  · rename_i hms
    split at he
    · rename_i hlen
      obtain ⟨k1, k2⟩ := hA (hnil.2 hms)
      obtain ⟨G2, u1, u2⟩ := fin2 fin [] _ hlen s3 k2 hsmall (t4.imp (fun h => h) fun h => h.2) (fun id y hm => by simp at hm)
        (hrv.imp (p := fun id off => if hs.length ≤ id ∧ id < 8 then .ptr (nid + id) off else .undef) (fun id off b hb => by
          split
          · rename_i hq
            refine .ptr _ _ _ ?_
            show (if nid ≤ nid + id ∧ nid + id < nid + 8 ∧ hs.length ≤ nid + id - nid then G'.μ (nid + id - nid) else G1.μ (nid + id)) = some b
            rw [if_pos ⟨by omega, by omega, by omega⟩, Nat.add_sub_cancel_left]
            exact hb
          · exact rvUndef _) (t4.imp (fun h => h) fun h => h.1) s1') he
      exact ⟨x, G2, rfl, u1, u2⟩
    · simp at he
  · rename_i hms
    split at he
    · rename_i hq
      obtain ⟨rfl, hfl⟩ := hq
      obtain ⟨_, k1, k2⟩ := hB (fun hq => hms (hnil.1 hq))
      obtain ⟨G2, u1, u2⟩ := fin2 [] (pairss (mutArgs args) (fin.map fun cs : List AV => cs.headD .undef)) _ (Nat.le_refl _) (by simp) (fun i hi => by simp at hi) (fun i hi => by simp at hi) (.inr fun i hi => by simp at hi)
        (fun id y hm => by
          obtain ⟨j, h1, h2, h3⟩ := pairss_mem hm
          have h2' : j < fin.length := by simpa using h2
          rw [List.getElem_map] at h3
          obtain ⟨x1, h4, h5⟩ := k2 j h2'
          obtain ⟨i, h6, h7, h8, _⟩ := mutSlots_get 0 args j h1
          rw [hmd, Nat.zero_add] at h6
          rw [h6] at h5
          rw [h4, h8] at h3
          obtain ⟨j', fz, e, sz, xs, r1, r2, r3, r4, r5⟩ := pairs_ok (hargs i h7) h5 id y h3
          have hx1 : x1 ∈ fin[j] := by rw [h4]; simp
          exact ⟨j', fz, e, sz, xs, r1, by rw [r2, e_ρ], r3, small_ok (hsmall j h2' _ hx1) j' r4, t4.imp (fun h => h) fun h => r5 (h.2 j h2' _ hx1)⟩)
        (hrv.imp (p := fun _ _ => .undef) (fun _ _ _ _ => rvUndef _) (t4.imp (fun h => h) fun h => h.1) s1') he
      exact ⟨x, G2, rfl, u1, u2⟩
    · simp at he
end
end Go.Proofs.Ytggkeechdakccaa.Flat
/-
A call that changes a row in place that stands in a row of ours.
-/
namespace Go.Proofs.Ytggkeechdakccaa.Flat
section
variable {P : Program} {st st' : St} {a : Act} {w w' : World} {G G' : Gh} {X F : Nat → Prop} {nid : Nat} {o : Oper}
theorem flat_set1 {xs : List AV} {sz i k : Nat} {x y c : AV} (hsz : ∀ x ∈ xs, x.cells.length = sz) (hx : xs[i]? = some x) (hy : y.cells = x.cells.set k c) (hk : k < sz) (p : Nat) (hp : p < xs.length * sz) :
    (flat (xs.set i y))[p]? = if p = i * sz + k then some c else (flat xs)[p]? := by
  have hxl := hsz x (List.mem_of_getElem? hx)
  have hil : i < xs.length := (List.getElem?_eq_some_iff.1 hx).1
  have hsz' : ∀ z ∈ xs.set i y, z.cells.length = sz := by
    intro z hz
    rcases List.mem_or_eq_of_mem_set hz with hz | rfl
    · exact hsz z hz
    · rw [hy, List.length_set]; exact hxl
  have hq : p / sz < xs.length := Nat.div_lt_of_lt_mul (by rw [Nat.mul_comm]; exact hp)
  have hr : p % sz < sz := Nat.mod_lt _ (by omega)
  have hpe : p / sz * sz + p % sz = p := by rw [Nat.mul_comm]; exact Nat.div_add_mod p _
  have h1 := flat_at hsz (p / sz) (p % sz) _ (List.getElem?_eq_getElem hq) hr
  have hq' : p / sz < (xs.set i y).length := by simpa using hq
  have h2 := flat_at hsz' (p / sz) (p % sz) _ (List.getElem?_eq_getElem hq') hr
  rw [hpe] at h1 h2
  rw [h1, h2]
  by_cases hi : p / sz = i
  · have e1 : (xs.set i y)[p / sz] = y := by simp [hi]
    have e2 : xs[p / sz] = x := by
      have h9 : xs[p / sz]? = some x := by rw [hi]; exact hx
      rw [List.getElem?_eq_getElem hq] at h9
      exact Option.some.inj h9
    rw [e1, e2, hy]
    by_cases hk2 : p % sz = k
    · have : p = i * sz + k := by rw [← hpe, hi, hk2]
      rw [if_pos this, hk2]
      simp only [List.getElem?_set, if_true]
      rw [if_pos (by omega)]
    · have : p ≠ i * sz + k := fun e => hk2 (by rw [e, Nat.add_comm, Nat.add_mul_mod_self_right, Nat.mod_eq_of_lt hk])
      rw [if_neg this, List.getElem?_set, if_neg (fun e => hk2 e.symm)]
  · have e1 : (xs.set i y)[p / sz] = xs[p / sz] := by rw [List.getElem_set]; rw [if_neg (fun e => hi e.symm)]
    have : p ≠ i * sz + k := fun e => hi (by rw [e, Nat.add_comm, Nat.add_mul_div_right _ _ (by omega), Nat.div_eq_of_lt hk, Nat.zero_add])
    rw [e1, if_neg this]
theorem Rel.reRow [Kept] (h : Rel st a w G X F) {id : Nat} {xs' : List AV} {G2 : Gh} (hk : Keep w w' G G2 (fun i => i = id)) (hρ : G2.ρ = G.ρ) (hnew : ∀ fz e sz ys, RowOK w G id fz e sz ys → RowOK w' G2 id fz e sz xs')
    (hb : ∀ i b, G.μ i = some b → w'.heap[b]? = w.heap[b]?) (hi : Inv w' G2 X) {F' : Nat → Prop} (hf : ∀ i, F' i → ¬ G2.al i ∧ G2.μ i = none) : Rel (st.setRow id xs') a w' G2 X F' := by
  have hrv : ∀ {v : AV} {x : Value}, RV w G v x → RV w' G2 (v.mapO (fun i fz e sz xs => if i = id then .own i fz e sz xs' else .own i fz e sz xs) .ptr (fun d i fz e sz xs k off => if i = id then .undef else .eptr d i fz e sz xs k off) (fun _ => .nils)) x := by
    intro v x hv
    refine RV.map (fun a v h => hk.ro h) ?_ (fun _ _ _ hb => .ptr _ _ _ (hk.box _ _ hb)) ?_ ?_ .nils hv
    · intro i fz1 e1 sz1 ys hk1
      rw [← hρ]
      by_cases hid : i = id
      · subst hid; rw [if_pos rfl]; exact .own _ _ _ _ _ (hnew _ _ _ _ hk1)
      · rw [if_neg hid]; exact .own _ _ _ _ _ (hk.rowOK hid hk1)
    · intro i fz1 e1 sz1 ys k off ad n c hk1 hρ1
      by_cases hid : i = id
      · rw [if_pos hid]; exact rvUndef _
      · rw [if_neg hid]; exact .eptr _ _ _ _ _ _ _ _ n c (hk.rowOK hid hk1) (by rw [hρ]; exact hρ1)
    · intro i fz1 e1 sz1 ys k off ad n c v x hk1 hρ1 hx ho hv
      by_cases hid : i = id
      · rw [if_pos hid]; exact rvUndef _
      · rw [if_neg hid]; exact .sub _ _ _ _ _ _ _ _ n c v x (hk.rowOK hid hk1) (by rw [hρ]; exact hρ1) hx ho (hk.place hid hk1 hρ1 hv)
  refine ⟨h.size, h.defers, fun i => ?_, fun i cs hcs => ?_, hi, hf⟩
  · rw [St.setRow, St.get_mapO]; exact hrv (h.slot i)
  · rw [St.setRow, St.box_mapO] at hcs
    obtain ⟨cs0, hc0, rfl⟩ := Option.map_eq_some_iff.1 hcs
    obtain ⟨b, vs, T, h1, h2, h3, h4, h5, h6⟩ := h.box i cs0 hc0
    refine ⟨b, vs, T, hk.box _ _ h1, (hb i b h1).trans h2, by simpa using h3, fun y hy => ?_, h5, fun j hj => ?_⟩
    · obtain ⟨y0, hy0, rfl⟩ := List.mem_map.1 hy
      have hh := h4 y0 hy0
      cases y0 with
      | undef => exact .inr rfl
      | own i2 _ _ _ _ => simp only [AV.mapO]; split <;> exact .inl rfl
      | eptr d i2 _ _ _ _ _ _ => simp only [AV.mapO]; split <;> first | exact .inr rfl | exact .inl rfl
      | agg _ => rcases hh with hh | hh <;> simp [AV.isCell] at hh
      | tup _ => rcases hh with hh | hh <;> simp [AV.isCell] at hh
      | _ => exact .inl rfl
    · rw [List.getElem_map]; exact hrv (h6 j (by simpa using hj))
theorem RV.isScal {v : AV} {x : Value} (h : RV w G v x) (hs : isScal v = true) : RV w' G' v x := by
  cases h with
  | ro h => exact .ro (scal_ro h hs)
  | nils => exact .nils
  | _ => simp [Flat.isScal] at hs
theorem evSub_ok [Kept] {Φ : Phi} {md : List Mode} {n id e0 sz0 i k : Nat} {xs ros : List AV} {cargs : Array Value} (h : Rel st a w G X F) (hX : ∀ b, w.heap.size ≤ b → X b)
    (hΦ : ∀ args ios ret fin, Φ n args ios = some (ret, fin) → CallOK P md n args ios ret fin) (hmd : mutSlots 0 md = [0]) (hl : cargs.size = ros.length + 1)
    (h0 : RV w G (.eptr true id false e0 sz0 xs i k) (cargs.getD 0 undef)) (hros : ∀ j (h : j < ros.length), RV w G ros[j] (cargs.getD (j + 1) undef)) (hsc : ros.all isScal = true)
    (he : evSub Φ n id xs i k ros o.dst st = some st') :
    Calls P n cargs w fun e w' => ∃ x G', e = .returned x ∧ Step false w w' G G' X ∧ Rel st' (a.put o.dst x) w' G' X F := by
  obtain ⟨ad, N, c, x, hk, hρ, hx, ho, hv⟩ : ∃ ad N c x, RowOK w G id false e0 sz0 xs ∧ G.ρ id = .slice (some ad) N c ∧ xs[i]? = some x ∧ k < x.cells.length ∧ w.cell? (ad.add (i * sz0 + k)) = some (cargs.getD 0 undef) := by
    generalize cargs.getD 0 undef = u at h0
    cases h0 with
    | ro h => cases h
    | sub _ _ _ _ _ _ _ ad N c _ x hk hρ hx ho hv => exact ⟨ad, N, c, x, hk, hρ, hx, ho, hv⟩
  unfold evSub at he
  rw [hx, Option.bind_some] at he
  split at he
  rotate_left
  · simp at he
  rename_i e sz ys hc
  obtain ⟨⟨ret, fin⟩, hret, he⟩ := Option.bind_eq_some_iff.1 he
  simp only at he
  split at he
  rotate_left
  · simp at he
  rename_i j e' sz' ys'
  split at he
  rotate_left
  · simp at he
  rename_i hcond
  obtain ⟨hrs, rfl, rfl, hsy⟩ := hcond
  have hi := h.inv
  have hal := hk.1
  have hne : xs ≠ [] := by intro e; subst e; simp at hx
  have hlim : G.lim id = 0 := by have := hk.2.2.1; simpa using this
  obtain ⟨g, off, cur, Fs, rfl, rfl, hat⟩ := hk.at hρ
  obtain ⟨q1, q2, q3⟩ := hat.elem hx ho
  have q4 := hat.cellAt q1
  rw [add_eq (ad := ⟨g, off, none⟩) rfl] at hv
  simp only at hv
  rw [q4] at hv
  have hcv := Option.some.inj hv
  have hck : x.cells[k] = .tr e' sz' ys := by
    rw [List.getElem?_eq_getElem ho] at hc
    exact Option.some.inj hc
  rw [hck] at q3
  generalize hq : i * sz0 + k = q at q1 q3 q4 hcv
  have hFq : ∀ b, Fs q b → G.own id b ∧ b ≠ g := hat.sub q
  let G0 : Gh := { nb := G.nb, S := G.S, μ := fun _ => none, ρ := fun _ => cargs.getD 0 undef, lim := fun _ => 0, al := fun i => i = 0, own := fun _ b => Fs q b, esz := fun _ => sz' }
  have hinv0 : Inv w G0 (fun b => Fs q b ∨ w.heap.size ≤ b) := {
    nb := hi.nb
    kept := fun b v h => ⟨(hi.kept b v h).1, fun h9 => by
      rcases h9 with h9 | h9
      · exact (hi.kept b v h).2 (hi.row id b hal (hFq b h9).1).1
      · have := heap_lt (hi.kept b v h).1; omega⟩
    row := fun _ b _ hb => ⟨.inl hb, (hi.row id b hal (hFq b hb).1).2⟩
    plain := fun _ b _ hb => hi.plain id b hal (hFq b hb).1
    box := fun _ b hb => by simp [G0] at hb
    rows := fun p r b hp hr hne => absurd (hp.trans hr.symm) hne
    boxes := fun _ _ b hb => by simp [G0] at hb
    rowBox := fun _ _ b _ _ => by simp [G0]
    lt := hi.lt
    old := hi.old
    new := hi.new
    sBox := fun _ _ _ _ _ => by simp [G0]
    sRow := fun fl b o p hs _ hb => by have := (hi.sRow fl b o id hs hal (hFq b hb).1).2; omega }
  have hrow0 : RowOK w G0 0 false e' sz' ys := ⟨rfl, rfl, Nat.zero_le _, by show TR w G.S (fun b => Fs q b) _ (cargs.getD 0 undef); rw [← hcv]; exact q3⟩
  have hcall := hΦ _ _ _ _ hret w G0 (fun b => Fs q b) cargs (by simpa using hl) (fun p hp => by
    cases p with
    | zero => exact .own (G := G0) 0 _ _ _ _ hrow0
    | succ p =>
      have hp' : p < ros.length := by simpa using hp
      rw [List.getElem_cons_succ]
      exact (hros p hp').isScal (List.all_eq_true.1 hsc _ (List.getElem_mem hp'))) hinv0 (fun p hp => by simp at hp) (fun p hp => ⟨by show ¬ p = 0; omega, rfl⟩) rfl
  refine hcall.mono ?_
  rintro ee w' ⟨v, G', rfl, hstep, hinv', hrv, _, _, hB⟩
  obtain ⟨_, _, hB⟩ := hB (by rw [hmd]; simp)
  obtain ⟨x1, hx1, hB⟩ := hB 0 (by simp)
  rw [hmd] at hB
  simp only [List.getElem_cons_zero, List.cons.injEq, and_true] at hx1
  subst hx1
  simp only [List.getD_cons_zero] at hB
  obtain ⟨hρj, hrj⟩ : G'.ρ j = cargs.getD 0 undef ∧ RowOK w' G' j false e' sz' ys' := by
    generalize cargs.getD 0 undef = u at hB
    cases hB with
    | ro h => cases h
    | own _ _ _ _ _ hk => exact ⟨rfl, hk⟩
  have hblk : ∀ b, b < w.heap.size → ¬ Fs q b → w'.heap[b]? = w.heap[b]? := fun b hb hn => hstep.block b hb (by rintro (h1 | h1); exact hn h1; omega)
  have hcell : ∀ fl b o, G.S fl b o → w'.cell? ⟨b, o, none⟩ = w.cell? ⟨b, o, none⟩ := fun fl b o hs => hstep.cell fl b o (.inl rfl) hs
  have hS' : ∀ fl b o, G.S fl b o → G'.S fl b o := fun fl b o hs => hstep.S fl b o (.inl rfl) hs
  have hnb' : G'.nb = G.nb := hstep.nb
  have hown' : ∀ b, G'.own j b → (Fs q b ∨ w.heap.size ≤ b) ∧ b < w'.heap.size ∧ G.nb ≤ b := fun b hb => by
    have := hinv'.row j b hrj.1 hb
    exact ⟨this.1, this.2.1, by rw [← hnb']; exact this.2.2⟩
  have hoth : ∀ p b, G.al p → p ≠ id → G.own p b → b < w.heap.size ∧ ¬ Fs q b := fun p b h1 h2 h3 => ⟨(hi.row p b h1 h3).2.1, fun h4 => hi.rows p id b h1 hal h2 h3 (hFq b h4).1⟩
  let G2 : Gh := { G with own := fun p b => if p = id then (G.own id b ∧ ¬ Fs q b) ∨ G'.own j b else G.own p b }
  have how : ∀ b, G2.own id b ↔ (G.own id b ∧ ¬ Fs q b) ∨ G'.own j b := fun b => by show (if id = id then _ else _) ↔ _; rw [if_pos rfl]
  have hown : ∀ p b, p ≠ id → (G2.own p b ↔ G.own p b) := fun p b hp => by show (if p = id then _ else _) ↔ _; rw [if_neg hp]
  have hkp : Keep w w' G G2 (fun p => p = id) := {
    S := fun _ _ _ hs => hs
    cell := hcell
    row := fun p hp hap => ⟨hap, rfl, rfl, rfl, fun b hb => ⟨(hown p b hp).2 hb, hblk b (hoth p b hap hp hb).1 (hoth p b hap hp hb).2⟩⟩
    box := fun _ _ hb => hb }
  have hgl : g < w.heap.size := (hi.row id g hal hat.own).2.1
  have hg0 : ¬ Fs q g := fun hf => (hFq g hf).2 rfl
  have hg1 : ¬ G'.own j g := fun hg => by rcases (hown' g hg).1 with h1 | h1; exact hg0 h1; omega
  have hbox : ∀ p b, G.μ p = some b → w'.heap[b]? = w.heap[b]? := fun p b hb => hblk b (hi.box p b hb).2.1 (fun hf => hi.rowBox id p b hal (hFq b hf).1 hb)
  have hksz : k < sz0 := by omega
  generalize hy' : rebuild x (x.cells.set k (.tr e' sz' ys')) = y' at he
  have hy'c : y'.cells = x.cells.set k (.tr e' sz' ys') := by
    rw [← hy']
    unfold rebuild
    cases hx0 : x with
    | agg cs => rfl
    | _ =>
      rw [hx0] at ho
      simp only [AV.cells, List.length_cons, List.length_nil] at ho
      obtain rfl : k = 0 := by omega
      rfl
  have hf1 := flat_set1 hat.wide hx hy'c hksz
  rw [hq] at hf1
  have hfl := hat.flatLen
  have hsz' : ∀ z ∈ xs.set i y', z.cells.length = sz0 := by
    intro z hz
    rcases List.mem_or_eq_of_mem_set hz with hz | rfl
    · exact hat.wide z hz
    · rw [hy'c, List.length_set]; exact q2
  have hfl2 : (flat (xs.set i y')).length = xs.length * sz0 := by rw [flat_length hsz', List.length_set]
  have hnew : ∀ fz e sz zs, RowOK w G id fz e sz zs → RowOK w' G2 id fz e sz (xs.set i y') := by
    intro fz1 e1 sz1 zs hk1
    obtain ⟨rfl, rfl, hlz⟩ := hk.same hk1 hne
    refine ⟨hal, hk1.2.1, by show G.lim id ≤ _; rw [hlim]; exact Nat.zero_le _, ?_⟩
    show TR w' G.S (G2.own id) _ (G.ρ id)
    rw [hρ]
    have hlen : (xs.set i y').length = xs.length := List.length_set
    rw [← hlen]
    refine .row _ _ _ _ g off c cur (fun p b => if p = q then G'.own j b else Fs p b) ((how g).2 (.inl ⟨hat.own, hg0⟩)) ((hblk g hgl hg0).trans hat.heap) (by rw [hlen]; exact hat.le) hat.max hat.size hsz' ?_ ?_ ?_ ?_
    · intro z hz
      obtain ⟨p, hp, rfl⟩ := List.getElem_of_mem hz
      have hp' : p < xs.length * sz0 := by omega
      have h1 := hf1 p hp'
      rw [List.getElem?_eq_getElem hp] at h1
      split at h1
      · rw [Option.some.inj h1]; rfl
      · exact hat.cell _ (List.mem_of_getElem? h1.symm)
    · intro p b hb
      split at hb
      · exact ⟨(how b).2 (.inr hb), fun e => hg1 (e ▸ hb)⟩
      · rename_i hpq
        exact ⟨(how b).2 (.inl ⟨(hat.sub p b hb).1, fun hf => hpq (hat.dis p q b hb hf)⟩), (hat.sub p b hb).2⟩
    · have hx2 : ∀ p b, p ≠ q → Fs p b → ¬ G'.own j b := fun p b hpq h1 h2 => by
        rcases (hown' b h2).1 with h3 | h3
        · exact hpq (hat.dis p q b h1 h3)
        · have := (hi.row id b hal (hat.sub p b h1).1).2.1; omega
      intro p r b hp hr
      split at hp <;> split at hr
      · rename_i h1 h2; rw [h1, h2]
      · rename_i h1 h2; exact absurd hp (hx2 r b h2 hr)
      · rename_i h1 h2; exact absurd hr (hx2 p b h1 hp)
      · exact hat.dis p r b hp hr
    · intro p hp
      have hp' : p < xs.length * sz0 := by omega
      have h1 := hf1 p hp'
      rw [List.getElem?_eq_getElem hp] at h1
      by_cases hpq : p = q
      · rw [if_pos hpq] at h1
        rw [Option.some.inj h1]
        simp only [if_pos hpq]
        have h2 := hrj.2.2.2
        rw [hρj, ← hcv] at h2
        rw [hpq]
        exact h2.scal (by simpa only [AV.scal] using hsy)
      · rw [if_neg hpq] at h1
        have hp2 : p < (flat xs).length := by omega
        rw [List.getElem?_eq_getElem hp2] at h1
        rw [Option.some.inj h1]
        simp only [if_neg hpq]
        exact (hat.rel p hp2).mono (fun _ _ _ hs => hs) hcell (fun b hb => hblk b (hi.row id b hal (hat.sub p b hb).1).2.1 (fun hf => hpq (hat.dis p q b hb hf))) (fun _ hb => hb)
  have hsz := hstep.size
  have hnoS : ∀ fl b o, G.S fl b o → ¬ G'.own j b := fun fl b o hs hb => by
    have := (hinv'.sRow fl b o j (hS' fl b o hs) hrj.1 hb).2
    have h2 := hrj.2.2.1
    simp only [Bool.false_eq_true, if_false, Nat.le_zero] at h2
    omega
  have hinv2 : Inv w' G2 X := {
    nb := Nat.le_trans hi.nb hsz
    kept := fun b v h => ⟨(hinv'.kept b v h).1, (hi.kept b v h).2⟩
    row := fun p b hap hb => by
      by_cases hp : p = id
      · subst hp
        rcases (how b).1 hb with ⟨h1, _⟩ | h1
        · have := hi.row p b hal h1; exact ⟨this.1, Nat.lt_of_lt_of_le this.2.1 hsz, this.2.2⟩
        · have h2 := hown' b h1
          exact ⟨h2.1.elim (fun h => (hi.row p b hal (hFq b h).1).1) (hX b), h2.2⟩
      · have := hi.row p b hap ((hown p b hp).1 hb); exact ⟨this.1, Nat.lt_of_lt_of_le this.2.1 hsz, this.2.2⟩
    plain := fun p b hap hb => by
      by_cases hp : p = id
      · subst hp
        rcases (how b).1 hb with ⟨h1, h2⟩ | h1
        · obtain ⟨c1, e1, h3⟩ := hi.plain p b hal h1
          exact ⟨c1, e1, (hblk b (hi.row p b hal h1).2.1 h2).trans h3⟩
        · exact hinv'.plain j b hrj.1 h1
      · have h1 := (hown p b hp).1 hb
        obtain ⟨c1, e1, h3⟩ := hi.plain p b hap h1
        exact ⟨c1, e1, (hblk b (hoth p b hap hp h1).1 (hoth p b hap hp h1).2).trans h3⟩
    box := fun p b hb => by have := hi.box p b hb; exact ⟨this.1, Nat.lt_of_lt_of_le this.2.1 hsz, this.2.2⟩
    rows := fun p r b hap har hpr hp hr => by
      have key : ∀ r, G.al r → r ≠ id → G.own r b → ¬ G2.own id b := fun r h1 h2 h3 h4 => by
        rcases (how b).1 h4 with ⟨h5, _⟩ | h5
        · exact hi.rows r id b h1 hal h2 h3 h5
        · rcases (hown' b h5).1 with h6 | h6
          · exact (hoth r b h1 h2 h3).2 h6
          · have := (hoth r b h1 h2 h3).1; omega
      by_cases hp1 : p = id
      · subst hp1
        have hr1 : r ≠ p := fun e => hpr e.symm
        exact key r har hr1 ((hown r b hr1).1 hr) hp
      · by_cases hr1 : r = id
        · subst hr1
          exact key p hap hp1 ((hown p b hp1).1 hp) hr
        · exact hi.rows p r b hap har hpr ((hown p b hp1).1 hp) ((hown r b hr1).1 hr)
    boxes := hi.boxes
    rowBox := fun p r b hap hp hr => by
      by_cases hp1 : p = id
      · subst hp1
        rcases (how b).1 hp with ⟨h5, _⟩ | h5
        · exact hi.rowBox p r b hal h5 hr
        · rcases (hown' b h5).1 with h6 | h6
          · exact hi.rowBox p r b hal (hFq b h6).1 hr
          · have := (hi.box r b hr).2.1; omega
      · exact hi.rowBox p r b hap ((hown p b hp1).1 hp) hr
    lt := fun fl b o hs => Nat.lt_of_lt_of_le (hi.lt fl b o hs) hsz
    old := hi.old
    new := fun b o hs => by have := hinv'.new b o (hS' true b o hs); rw [hnb'] at this; exact this
    sBox := hi.sBox
    sRow := fun fl b o p hs hap hp => by
      by_cases hp1 : p = id
      · subst hp1
        rcases (how b).1 hp with ⟨h5, _⟩ | h5
        · exact hi.sRow fl b o p hs hal h5
        · exact absurd h5 (hnoS fl b o hs)
      · exact hi.sRow fl b o p hs hap ((hown p b hp1).1 hp) }
  have hr2 : Rel (st.setRow id (xs.set i y')) a w' G2 X F := h.reRow hkp rfl hnew hbox hinv2 h.free
  have hgX : ∀ b, Fs q b → X b := fun b hb => (hi.row id b hal (hFq b hb).1).1
  refine ⟨v, G2, rfl, ⟨hstep.os, hstep.tape, hstep.output, hstep.size, fun b hb hx => hblk b hb (fun hf => hx (hgX b hf)), rfl, fun fl b o _ hs => hs, fun fl b o _ hs => hcell fl b o hs, fun fl b o hs => .inl hs, rfl, fun _ _ _ h => h⟩, (hr2.put (hrv.isScal hrs) he).1⟩
theorem firstE_mem {id e sz i k : Nat} {xs : List AV} : ∀ {cs : List AV}, firstE cs = some (id, e, sz, xs, i, k) → AV.eptr true id false e sz xs i k ∈ cs := by
  intro cs
  induction cs with
  | nil => intro h; simp [firstE] at h
  | cons c r ih =>
    intro h
    unfold firstE at h
    split at h
    · rename_i h1; simp at h1
    · rename_i h1
      simp only [List.cons.injEq] at h1
      simp only [Option.some.injEq, Prod.mk.injEq] at h
      obtain ⟨rfl, rfl, rfl, rfl, rfl, rfl⟩ := h
      rw [h1.1]; exact List.mem_cons_self
    · rename_i h1
      simp only [List.cons.injEq] at h1
      rw [← h1.2] at h
      exact List.mem_cons_of_mem _ (ih h)
theorem Rel.take [Kept] {st s0 : St} {a : Act} {w : World} {G : Gh} {F : Nat → Prop} (h : Rel st a w G X F) {nid : Nat} (hF : F nid) {cs : List AV} (hcs : ∀ y ∈ cs, ∃ v, RV w G y v) (ht : st.take nid cs = some s0) :
    ∃ G', Rel s0 a w G' X (fun j => F j ∧ j ≠ nid) ∧ Step false w w G G' X := by
  unfold St.take at ht
  split at ht
  · simp at ht
  rename_i id e sz xs i k hfe
  obtain ⟨x, hx, ht⟩ := Option.bind_eq_some_iff.1 ht
  split at ht
  rotate_left
  · simp at ht
  rename_i e' sz' ys hc
  obtain rfl := Option.some.inj ht
  obtain ⟨v0, hv0⟩ := hcs _ (firstE_mem hfe)
  obtain ⟨ad, N, c, hk, hρ, ho, hv⟩ : ∃ ad N c, RowOK w G id false e sz xs ∧ G.ρ id = .slice (some ad) N c ∧ k < x.cells.length ∧ w.cell? (ad.add (i * sz + k)) = some v0 := by
    cases hv0 with
    | ro h => cases h
    | sub _ _ _ _ _ _ _ ad N c _ x' hk hρ hx' ho hv =>
      rw [hx] at hx'
      obtain rfl := Option.some.inj hx'
      exact ⟨ad, N, c, hk, hρ, ho, hv⟩
  have hi := h.inv
  have hal := hk.1
  have hne : xs ≠ [] := by intro e; subst e; simp at hx
  have hlim : G.lim id = 0 := by have := hk.2.2.1; simpa using this
  have hk0 := hk
  obtain ⟨g, off, cur, Fs, rfl, rfl, hat⟩ := hk.at hρ
  obtain ⟨q1, q2, q3⟩ := hat.elem hx ho
  have q4 := hat.cellAt q1
  have hv9 := hv
  rw [add_eq (ad := ⟨g, off, none⟩) rfl] at hv
  simp only at hv
  rw [q4] at hv
  have hcv := Option.some.inj hv
  have hck : x.cells[k] = .tr e' sz' ys := by
    rw [List.getElem?_eq_getElem ho] at hc
    exact Option.some.inj hc
  rw [hck] at q3
  generalize hq : i * sz + k = q at q1 q3 q4 hcv
  have hFq : ∀ b, Fs q b → G.own id b ∧ b ≠ g := hat.sub q
  generalize hn0 : nid = n0 at hF
  have hn0a : ¬ G.al n0 := (h.free n0 hF).1
  have hidn : id ≠ n0 := fun e => hn0a (e ▸ hal)
  have haln : ∀ j, G.al j → j ≠ n0 := fun j hj e => hn0a (e ▸ hj)
  let G2 : Gh := { G with al := fun j => G.al j ∨ j = n0, own := fun j b => if j = n0 then Fs q b else if j = id then G.own id b ∧ ¬ Fs q b else G.own j b, ρ := fun j => if j = n0 then v0 else G.ρ j, lim := fun j => if j = n0 then 0 else G.lim j, esz := fun j => if j = n0 then sz' else G.esz j }
  have o1 : ∀ b, G2.own n0 b ↔ Fs q b := fun b => by show (if n0 = n0 then _ else _) ↔ _; rw [if_pos rfl]
  have o2 : ∀ b, G2.own id b ↔ G.own id b ∧ ¬ Fs q b := fun b => by show (if id = n0 then _ else if id = id then _ else _) ↔ _; rw [if_neg hidn, if_pos rfl]
  have o3 : ∀ j b, j ≠ n0 → j ≠ id → (G2.own j b ↔ G.own j b) := fun j b h1 h2 => by show (if j = n0 then _ else if j = id then _ else _) ↔ _; rw [if_neg h1, if_neg h2]
  have r1 : G2.ρ n0 = v0 := by show (if n0 = n0 then _ else _) = _; rw [if_pos rfl]
  have r2 : ∀ j, j ≠ n0 → G2.ρ j = G.ρ j := fun j hj => by show (if j = n0 then _ else _) = _; rw [if_neg hj]
  have l1 : G2.lim n0 = 0 := by show (if n0 = n0 then _ else _) = _; rw [if_pos rfl]
  have l2 : ∀ j, j ≠ n0 → G2.lim j = G.lim j := fun j hj => by show (if j = n0 then _ else _) = _; rw [if_neg hj]
  have s1 : G2.esz n0 = sz' := by show (if n0 = n0 then _ else _) = _; rw [if_pos rfl]
  have s2 : ∀ j, j ≠ n0 → G2.esz j = G.esz j := fun j hj => by show (if j = n0 then _ else _) = _; rw [if_neg hj]
  generalize hy' : rebuild x (x.cells.set k .gone) = y'
  have hy'c : y'.cells = x.cells.set k .gone := by
    rw [← hy']
    unfold rebuild
    cases hx0 : x with
    | agg cs => rfl
    | _ =>
      rw [hx0] at ho
      simp only [AV.cells, List.length_cons, List.length_nil] at ho
      obtain rfl : k = 0 := by omega
      rfl
  have hf1 := flat_set1 hat.wide hx hy'c (by omega : k < sz)
  rw [hq] at hf1
  have hfl := hat.flatLen
  have hsz' : ∀ z ∈ xs.set i y', z.cells.length = sz := by
    intro z hz
    rcases List.mem_or_eq_of_mem_set hz with hz | rfl
    · exact hat.wide z hz
    · rw [hy'c, List.length_set]; exact q2
  have hfl2 : (flat (xs.set i y')).length = xs.length * sz := by rw [flat_length hsz', List.length_set]
  have hg0 : ¬ Fs q g := fun hf => (hFq g hf).2 rfl
  have hone : (cur.getD (off + q) undef).oneCell' = true := q3.one rfl
  have hrow0 : RowOK w G2 n0 false e' sz' ys := ⟨.inr rfl, s1, by rw [l1]; exact Nat.zero_le _, by
    rw [r1, ← hcv]
    exact q3.mono (fun _ _ _ hs => hs) (fun _ _ _ _ => rfl) (fun _ _ => rfl) (fun b hb => (o1 b).2 hb)⟩
  have hrow1 : RowOK w G2 id false e sz (xs.set i y') := by
    refine ⟨.inl hal, by rw [s2 id hidn]; exact hk.2.1, by rw [l2 id hidn, hlim]; exact Nat.zero_le _, ?_⟩
    rw [r2 id hidn, hρ]
    have hlen : (xs.set i y').length = xs.length := List.length_set
    rw [← hlen]
    refine .row _ _ _ _ g off c cur (fun p b => p ≠ q ∧ Fs p b) ((o2 g).2 ⟨hat.own, hg0⟩) hat.heap (by rw [hlen]; exact hat.le) hat.max hat.size hsz' ?_ ?_ ?_ ?_
    · intro z hz
      obtain ⟨p, hp, rfl⟩ := List.getElem_of_mem hz
      have h1 := hf1 p (by omega)
      rw [List.getElem?_eq_getElem hp] at h1
      split at h1
      · rw [Option.some.inj h1]; rfl
      · exact hat.cell _ (List.mem_of_getElem? h1.symm)
    · rintro p b ⟨hpq, hb⟩
      exact ⟨(o2 b).2 ⟨(hat.sub p b hb).1, fun hf => hpq (hat.dis p q b hb hf)⟩, (hat.sub p b hb).2⟩
    · rintro p r b ⟨_, hp⟩ ⟨_, hr⟩
      exact hat.dis p r b hp hr
    · intro p hp
      have h1 := hf1 p (by omega)
      rw [List.getElem?_eq_getElem hp] at h1
      by_cases hpq : p = q
      · rw [if_pos hpq] at h1
        rw [Option.some.inj h1, hpq]
        exact .ro _ (.gone _ _ hone)
      · rw [if_neg hpq] at h1
        have hp2 : p < (flat xs).length := by omega
        rw [List.getElem?_eq_getElem hp2] at h1
        rw [Option.some.inj h1]
        exact (hat.rel p hp2).mono (fun _ _ _ hs => hs) (fun _ _ _ _ => rfl) (fun _ _ => rfl) (fun b hb => ⟨hpq, hb⟩)
  have hkp : Keep w w G G2 (fun p => p = id) := {
    S := fun _ _ _ hs => hs
    cell := fun _ _ _ _ => rfl
    row := fun p hp hap => ⟨.inl hap, r2 p (haln p hap), l2 p (haln p hap), s2 p (haln p hap), fun b hb => ⟨(o3 p b (haln p hap) hp).2 hb, rfl⟩⟩
    box := fun _ _ hb => hb }
  have hrv : ∀ {y : AV} {z : Value}, RV w G y z → RV w G2 (y.mapO (takenO id e sz (xs.set i y')) .ptr (takenE n0 id i k e' sz' ys) (fun _ => .nils)) z := by
    intro y z hv
    refine RV.map (fun a v h => hkp.ro h) ?_ (fun _ _ _ hb => .ptr _ _ _ (hkp.box _ _ hb)) ?_ ?_ .nils hv
    · intro j fz1 e1 sz1 zs hk1
      unfold takenO
      by_cases hid : j = id
      · subst hid
        rw [if_pos rfl, ← r2 j hidn]
        exact .own _ _ _ _ _ hrow1
      · rw [if_neg hid, ← r2 j (haln j hk1.1)]
        exact .own _ _ _ _ _ (hkp.rowOK hid hk1)
    · intro j fz1 e1 sz1 zs i1 k1 ad n c1 hk1 hρ1
      unfold takenE
      by_cases hid : j = id
      · rw [if_pos hid, if_neg (by simp)]; exact rvUndef _
      · rw [if_neg hid]; exact .eptr _ _ _ _ _ _ _ _ n c1 (hkp.rowOK hid hk1) (by rw [r2 j (haln j hk1.1)]; exact hρ1)
    · intro j fz1 e1 sz1 zs i1 k1 ad n c1 v x1 hk1 hρ1 hx1 ho1 hv1
      unfold takenE
      by_cases hid : j = id
      · subst hid
        rw [if_pos rfl]
        split
        · rename_i he
          obtain ⟨_, rfl, rfl⟩ := he
          obtain ⟨rfl, rfl, _⟩ := hk0.same hk1 hne
          rw [hρ] at hρ1
          simp only [Value.slice.injEq, Option.some.injEq] at hρ1
          rw [← hρ1.1, hv9] at hv1
          rw [← Option.some.inj hv1, ← r1]
          exact .own _ _ _ _ _ hrow0
        · exact rvUndef _
      · rw [if_neg hid]
        exact .sub _ _ _ _ _ _ _ _ n c1 v x1 (hkp.rowOK hid hk1) (by rw [r2 j (haln j hk1.1)]; exact hρ1) hx1 ho1 hv1
  have src : ∀ j b, G2.al j → G2.own j b → G.own (if j = n0 then id else j) b ∧ G.al (if j = n0 then id else j) := by
    intro j b hj hb
    by_cases h1 : j = n0
    · rw [if_pos h1]
      rw [h1] at hb
      exact ⟨(hFq b ((o1 b).1 hb)).1, hal⟩
    · rw [if_neg h1]
      have hj' : G.al j := hj.resolve_right h1
      by_cases h2 : j = id
      · rw [h2] at hb ⊢
        exact ⟨((o2 b).1 hb).1, hal⟩
      · exact ⟨(o3 j b h1 h2).1 hb, hj'⟩
  have hinv2 : Inv w G2 X := {
    nb := hi.nb
    kept := hi.kept
    row := fun p b hap hb => hi.row _ b (src p b hap hb).2 (src p b hap hb).1
    plain := fun p b hap hb => hi.plain _ b (src p b hap hb).2 (src p b hap hb).1
    box := hi.box
    rows := fun p r b hap har hpr hp hr => by
      have h1 := src p b hap hp
      have h2 := src r b har hr
      by_cases hp0 : p = n0
      · have hr0 : r ≠ n0 := fun e => hpr (hp0.trans e.symm)
        rw [if_pos hp0] at h1
        rw [if_neg hr0] at h2
        by_cases hr1 : r = id
        · rw [hr1] at hr
          rw [hp0] at hp
          exact ((o2 b).1 hr).2 ((o1 b).1 hp)
        · exact hi.rows r id b h2.2 hal hr1 h2.1 h1.1
      · rw [if_neg hp0] at h1
        by_cases hr0 : r = n0
        · rw [if_pos hr0] at h2
          by_cases hp1 : p = id
          · rw [hp1] at hp
            rw [hr0] at hr
            exact ((o2 b).1 hp).2 ((o1 b).1 hr)
          · exact hi.rows p id b h1.2 hal hp1 h1.1 h2.1
        · rw [if_neg hr0] at h2
          exact hi.rows p r b h1.2 h2.2 hpr h1.1 h2.1
    boxes := hi.boxes
    rowBox := fun p r b hap hp hr => hi.rowBox _ r b (src p b hap hp).2 (src p b hap hp).1 hr
    lt := hi.lt
    old := hi.old
    new := hi.new
    sBox := hi.sBox
    sRow := fun fl b o p hs hap hp => by
      have h1 := src p b hap hp
      have h2 := hi.sRow fl b o _ hs h1.2 h1.1
      by_cases hp0 : p = n0
      · rw [if_pos hp0, hlim] at h2
        omega
      · rw [if_neg hp0] at h2
        rw [r2 p hp0, l2 p hp0]
        exact h2 }
  refine ⟨G2, ⟨h.size, h.defers, fun j => ?_, fun j cs1 hcs1 => ?_, hinv2, fun j hj => ⟨fun h9 => h9.elim (h.free j hj.1).1 hj.2, (h.free j hj.1).2⟩⟩,
    ⟨rfl, rfl, rfl, Nat.le_refl _, fun _ _ _ => rfl, rfl, fun _ _ _ _ h => h, fun _ _ _ _ _ => rfl, fun _ _ _ h => .inl h, rfl, fun _ _ _ h => h⟩⟩
  · rw [St.get_mapO]
    exact hrv (h.slot j)
  · rw [St.box_mapO] at hcs1
    obtain ⟨cs0, hc0, rfl⟩ := Option.map_eq_some_iff.1 hcs1
    obtain ⟨b, vs, T, h1, h2, h3, h4, h5, h6⟩ := h.box j cs0 hc0
    refine ⟨b, vs, T, h1, h2, by simpa using h3, fun y hy => ?_, h5, fun p hp => ?_⟩
    · obtain ⟨y0, hy0, rfl⟩ := List.mem_map.1 hy
      have hh := h4 y0 hy0
      cases y0 with
      | undef => exact .inr rfl
      | own i2 _ _ _ _ => simp only [AV.mapO, takenO]; split <;> exact .inl rfl
      | eptr d i2 _ _ _ _ _ _ =>
        simp only [AV.mapO, takenE]
        split
        · split
          · exact .inl rfl
          · exact .inr rfl
        · exact .inl rfl
      | agg _ => rcases hh with hh | hh <;> simp [AV.isCell] at hh
      | tup _ => rcases hh with hh | hh <;> simp [AV.isCell] at hh
      | _ => exact .inl rfl
    · rw [List.getElem_map]; exact hrv (h6 p (by simpa using hp))
end
end Go.Proofs.Ytggkeechdakccaa.Flat
/-
One operation, whatever it is.
-/
namespace Go.Proofs.Ytggkeechdakccaa.Flat
def Yields (P : Program) (Post : Value → World → Prop) : Result Next → Prop
  | .ok (.value v) w' => Post v w'
  | .ok .skip w' => Post undef w'
  | .ok (.enter f args) w' => Calls P f args w' fun e w'' => ∃ v, e = .returned v ∧ Post v w''
  | _ => False
theorem Yields.wp {P : Program} {o : Oper} {a : Act} {w : World} {Post : Value → World → Prop} {next : Act → World → Prop} {Q : Exit → Act → World → Prop}
    (h : Yields P Post ((execOp a.eval o).run P w)) (hn : ∀ v w', Post v w' → next (a.put o.dst v) w') : o.wp P a w next Q := by
  unfold Oper.wp
  generalize (execOp a.eval o).run P w = r at h
  cases r with
  | ok n w' =>
    cases n with
    | value v => exact hn _ _ h
    | skip => exact hn _ _ h
    | enter f args =>
      refine Calls.mono h ?_
      rintro e w'' ⟨v, rfl, hp⟩
      exact hn _ _ hp
    | _ => exact h.elim
  | halt x w' => exact h.elim
theorem Yields.mono {P : Program} {Post Post' : Value → World → Prop} {r : Result Next} (h : Yields P Post r) (hp : ∀ v w', Post v w' → Post' v w') : Yields P Post' r := by
  cases r with
  | ok n w' =>
    cases n with
    | value v => exact hp _ _ h
    | skip => exact hp _ _ h
    | enter f args =>
      refine Calls.mono h ?_
      rintro e w'' ⟨v, rfl, hq⟩
      exact ⟨v, rfl, hp _ _ hq⟩
    | _ => exact h.elim
  | halt x w' => exact h.elim
def Enters (P : Program) (f : Nat) : Prop := ∃ fn c, P.funcs[f]? = some fn ∧ fn.body = some c ∧ fn.name ≠ "runtime.NumGoroutine"
theorem run_callFunc {P : Program} {f : Nat} (h : Enters P f) (args : Array Value) (w : World) : (callFunc f args).run P w = .ok (.enter f args) w := by
  obtain ⟨fn, c, h1, h2, h3⟩ := h
  simp [callFunc, h1, h2, h3]
def PhiOK [Kept] (E : Env) (Φ : Phi) : Prop := ∀ n args ios ret fin, Φ n args ios = some (ret, fin) → Enters E.P n ∧ CallOK E.P (E.md n) n args ios ret fin
section
variable {E : Env} {Φ : Phi} {st st' : St} {a : Act} {w : World} {G : Gh} {X F : Nat → Prop} {nid : Nat} {o : Oper}
theorem Done.yields [Kept] {F' : Nat → Prop} (h : Done false E.P o a w G X F' st') : Yields E.P (fun v w' => ∃ G', Step false w w' G G' X ∧ Rel st' (a.put o.dst v) w' G' X F') ((execOp a.eval o).run E.P w) := by
  obtain ⟨w', G', hs, ⟨v, hr, hq⟩ | ⟨hr, hq⟩⟩ := h
  · rw [hr]; exact ⟨G', hs, hq⟩
  · rw [hr]; exact ⟨G', hs, hq⟩
theorem Done.less [Kept] {F1 F2 : Nat → Prop} (h : Done false E.P o a w G X F1 st') (hf : ∀ i, F2 i → F1 i) : Done false E.P o a w G X F2 st' := by
  obtain ⟨w', G', hs, hq⟩ := h
  exact ⟨w', G', hs, hq.imp (fun ⟨v, h1, h2⟩ => ⟨v, h1, h2.weaken hf⟩) (fun ⟨h1, h2⟩ => ⟨h1, h2.weaken hf⟩)⟩
theorem mutSlots_ro {md : List Mode} (h : md.all (· == .ro) = true) : ∀ i, mutSlots i md = [] := by
  induction md with
  | nil => intro i; rfl
  | cons m r ih =>
    intro i
    simp only [List.all_cons, Bool.and_eq_true] at h
    cases m <;> simp at h
    exact ih (by simpa using h) (i + 1)
theorem zip_fst {α β : Type} : ∀ {l : List α} {r : List β}, l.length = r.length → (l.zip r).map Prod.fst = l
  | [], [], _ => rfl
  | x :: l, y :: r, h => by simp only [List.zip_cons_cons, List.map_cons]; rw [zip_fst (by simpa using h)]
  | [], _ :: _, h => by simp at h
  | _ :: _, [], h => by simp at h
theorem evCall_ok [Kept] {fo : Operand} {as : Array Operand} {ats : Array TypeId} (h : Rel st a w G X F) (hX : ∀ b, w.heap.size ≤ b → X b) (hF : ∀ i, nid ≤ i → i < nid + 8 → F i) (hΦ : PhiOK E Φ)
    {n : Nat} {caps : List AV} (hop : o.op = .call { callee := .value fo, args := as, argTypes := ats }) (hfo : st.val fo = .clo n caps)
    (he : evCall Φ (E.md n) nid n (as.toList.map st.val) caps o.dst st = some st') :
    Yields E.P (fun v w' => ∃ G', Step false w w' G G' X ∧ Rel st' (a.put o.dst v) w' G' X (fun i => F i ∧ ¬ (nid ≤ i ∧ i < nid + 8))) ((execOp a.eval o).run E.P w) := by
  have hf := h.sees.val fo
  rw [hfo] at hf
  have hclo : ∃ vs : Array Value, a.eval fo = .func (.func n) #[] vs ∧ vs.size = caps.length ∧ ∀ j (h : j < caps.length), RV w G caps[j] (vs.getD j undef) := by
    generalize a.eval fo = x at hf
    cases hf with
    | ro h => cases h with
      | clo _ _ _ vs hl hr => exact ⟨vs, rfl, hl, fun j hj => .ro (hr j hj)⟩
    | clo _ _ vs hl hr => exact ⟨vs, rfl, hl, hr⟩
  obtain ⟨vs, hvs, hl, hr⟩ := hclo
  have hΦn : ∀ args ios ret fin, Φ n args ios = some (ret, fin) → CallOK E.P (E.md n) n args ios ret fin := fun _ _ _ _ hq => (hΦ _ _ _ _ _ hq).2
  have fini : Enters E.P n → Calls E.P n (as.map a.eval ++ vs) w (fun e w' => ∃ x G', e = .returned x ∧ Step false w w' G G' X ∧ Rel st' (a.put o.dst x) w' G' X (fun i => F i ∧ ¬ (nid ≤ i ∧ i < nid + 8))) →
      Yields E.P (fun v w' => ∃ G', Step false w w' G G' X ∧ Rel st' (a.put o.dst v) w' G' X (fun i => F i ∧ ¬ (nid ≤ i ∧ i < nid + 8))) ((execOp a.eval o).run E.P w) := by
    intro hent hcl
    have hrun : (execOp a.eval o).run E.P w = .ok (.enter n (as.map a.eval ++ vs)) w := by
      simp [execOp, hop, resolve, hvs, Deferred.ofValue, invoke, run_callFunc hent]
    rw [hrun]
    refine hcl.mono ?_
    rintro e w' ⟨x, G', rfl, h1, h2⟩
    exact ⟨x, rfl, G', h1, h2⟩
  have harg : ∀ j (hj : j < as.size), RV w G (st.val as[j]) ((as.map a.eval ++ vs).getD j undef) := by
    intro j hj
    rw [Array.getD_eq_getD_getElem?, Array.getElem?_append_left (by simpa using hj)]
    simp only [Array.getElem?_map]
    rw [Array.getElem?_eq_getElem hj]
    exact h.sees.val _
  unfold evCall at he
  split at he
  · rename_i hro
    obtain ⟨⟨v, ids⟩, hv, hp⟩ := Option.bind_eq_some_iff.1 he
    have hent : Enters E.P n := by
      unfold evRo at hv
      obtain ⟨⟨ret, fin⟩, hr, _⟩ := Option.bind_eq_some_iff.1 hv
      exact (hΦ _ _ _ _ _ hr).1
    refine fini hent (evRo_ok (k := false) h hX hF (fun args ret fin hq => hΦn _ _ _ _ hq) (by simp [hl]) (fun j hj => ?_) hv hp)
    by_cases hj' : j < as.size
    · rw [List.getElem_append_left (by simpa using hj')]
      simp only [List.getElem_map, Array.getElem_toList]
      exact harg j hj'
    · rw [Array.getD_eq_getD_getElem?, List.getElem_append_right (by simpa using hj'), Array.getElem?_append_right (by simpa using hj')]
      have hj2 : j - as.size < caps.length := by simp at hj; omega
      have := hr (j - as.size) hj2
      rw [Array.getD_eq_getD_getElem?] at this
      simpa using this
  · split at he
    rotate_left
    · simp at he
    split at he
    rotate_left
    · simp at he
    rename_i hlen
    have hvs0 : vs = #[] := by simpa using hl
    subst hvs0
    simp only [Array.append_empty] at fini harg
    split at he
    · rename_i md' id e0 sz0 xs i k ros hmd hargs
      split at he
      rotate_left
      · simp at he
      rename_i hc
      have hent : Enters E.P n := by
        unfold evSub at he
        obtain ⟨x, _, he⟩ := Option.bind_eq_some_iff.1 he
        split at he
        · obtain ⟨⟨ret, fin⟩, hr, _⟩ := Option.bind_eq_some_iff.1 he
          exact (hΦ _ _ _ _ _ hr).1
        · simp at he
      have hsz : as.size = ros.length + 1 := by
        have := congrArg List.length hargs
        simpa using this
      have hat : ∀ j (hj : j < as.size), st.val as[j] = (AV.eptr true id false e0 sz0 xs i k :: ros)[j]'(by simpa using (by omega : j < ros.length + 1)) := by
        intro j hj
        have : (as.toList.map st.val)[j]? = (AV.eptr true id false e0 sz0 xs i k :: ros)[j]? := by rw [hargs]
        rw [List.getElem?_eq_getElem (by simpa using hj), List.getElem?_eq_getElem (by simpa using (by omega : j < ros.length + 1))] at this
        simpa using this
      refine fini hent ((evSub_ok (md := E.md n) (e0 := e0) (sz0 := sz0) h hX hΦn (by rw [hmd]; simp only [mutSlots]; rw [mutSlots_ro hc.1]) (by simpa using hsz) ?_ (fun j hj => ?_) hc.2 he).mono ?_)
      · have := harg 0 (by omega)
        rw [hat 0 (by omega)] at this
        exact this
      · have := harg (j + 1) (by omega)
        rw [hat (j + 1) (by omega)] at this
        simpa using this
      · rintro e w' ⟨x, G', rfl, h1, h2⟩
        exact ⟨x, G', rfl, h1, h2.weaken fun i hi => hi.1⟩
    · have hent : Enters E.P n := by
        unfold evGive at he
        simp only at he
        split at he
        · obtain ⟨⟨ret, fin⟩, hr, _⟩ := Option.bind_eq_some_iff.1 he
          exact (hΦ _ _ _ _ _ hr).1
        · simp at he
      refine fini hent (evGive_ok (md := E.md n) h hX hF hΦn (zip_fst hlen) (by simp at hlen ⊢; omega) (fun j hj => ?_) he)
      have hj' : j < as.size := by simp at hj; omega
      have := harg j hj'
      simpa using this
theorem evFree_yields [Kept] (h : Rel st a w G X F) (he : ((evFree E Φ st.box nid st.val o.op).bind fun (v, _) => st.put o.dst v) = some st') (hc : isCallV o.op = false) :
    Yields E.P (fun v w' => ∃ G', Step false w w' G G' X ∧ Rel st' (a.put o.dst v) w' G' X (fun i => F i ∧ ¬ (nid ≤ i ∧ i < nid + 8))) ((execOp a.eval o).run E.P w) := by
  obtain ⟨⟨v, ids⟩, hv, hp⟩ := Option.bind_eq_some_iff.1 he
  obtain ⟨_, cv, hrun, hx⟩ := evPure_ok h.sees hv hc
  rw [hrun]
  exact ⟨G, Step.refl _ _ _ _, ((h.put hx hp).1).weaken fun i hi => hi.1⟩
theorem evStore_ok [Kept] {t : Nat} {p x : Operand} (h : Rel st a w G X F) (hop : o.op = .store t p x) (he : evStore E.P t (st.val p) (st.val x) o.dst st = some st') : Done false E.P o a w G X F st' := by
  unfold evStore at he
  obtain ⟨ti, hti, he⟩ := Option.bind_eq_some_iff.1 he
  split at he
  · rename_i h1
    split at he
    · rename_i id off hp
      obtain ⟨cs, hcs, he⟩ := Option.bind_eq_some_iff.1 he
      split at he
      · rename_i h2
        exact evStoreBox_ok h hop hti hp hcs h1.1 h1.2 h2 he
      · simp at he
    · rename_i id e0 sz xs i off hp
      obtain ⟨y, hy, he⟩ := Option.bind_eq_some_iff.1 he
      simp only at he
      split at he
      · rename_i h2
        exact evStoreElem_ok h hop hti hp hy h1.1 h2.1 h2.2.1 h2.2.2.1 h2.2.2.2 he
      · simp at he
    · simp at he
  · simp at he
theorem evOp0_ok [Kept] (h : Rel st a w G X F) (hX : ∀ b, w.heap.size ≤ b → X b) (hF : ∀ i, nid ≤ i → i < nid + 8 → F i) (hΦ : PhiOK E Φ) (he : evOp0 E Φ nid o st = some st') :
    Yields E.P (fun v w' => ∃ G', Step false w w' G G' X ∧ Rel st' (a.put o.dst v) w' G' X (fun i => F i ∧ ¬ (nid ≤ i ∧ i < nid + 8))) ((execOp a.eval o).run E.P w) := by
  have hn : F nid := hF nid (Nat.le_refl _) (by omega)
  have hw : ∀ i, F i ∧ ¬ (nid ≤ i ∧ i < nid + 8) → F i ∧ i ≠ nid := fun i hi => ⟨hi.1, fun e => hi.2 (by omega)⟩
  unfold evOp0 at he
  split at he
  · rename_i t hop
    exact ((evAlloc_ok h hX hn hop he).less hw).yields
  · rename_i t x hop
    exact ((evBox_ok h hX hn hop he).less hw).yields
  · rename_i t p x hop
    exact ((evStore_ok h hop he).less fun i hi => hi.1).yields
  · rename_i t len ps hop
    exact ((evBuildSlice_ok h hX hn hop he).less hw).yields
  · rename_i t l c hop
    exact ((evMakeSlice_ok h hX hn hop he).less hw).yields
  · rename_i t x lo hi hop
    split at he
    · rename_i id fz e sz xs hx
      rw [← hx] at he
      exact ((evCutOwn_ok h hX hn hop he).less hw).yields
    · exact evFree_yields h he (by rw [hop]; rfl)
  · rename_i as ts hop
    split at he
    · rename_i s x t u has hts
      exact ((evAppend_ok h hX hn hop has hts he).less hw).yields
    · simp at he
  · rename_i f as ats hop
    split at he
    · rename_i n caps hf
      exact evCall_ok h hX hF hΦ hop hf he
    · simp at he
  · rename_i op _ _ _ _ _ _ hcall
    refine evFree_yields h he ?_
    unfold isCallV
    split
    · rename_i f as ats hop
      exact absurd hop (hcall _ _ _)
    · rfl
end
end Go.Proofs.Ytggkeechdakccaa.Flat
/-
A region, in the order that is written.
-/
namespace Go.Proofs.Ytggkeechdakccaa.Flat
section
variable {E : Env} {Φ : Phi} {st st' : St} {a : Act} {w : World} {G : Gh} {X F : Nat → Prop} {nid : Nat} {o : Oper}
theorem bool_of_rv {w : World} {G : Gh} {t : Bool} {x : Value} (h : RV w G (.bool t) x) : x = .bool t := by
  cases h with
  | ro h => cases h; rfl
theorem skip_of_rv {w : World} {G : Gh} {x : Value} (h : RV w G (.tup []) x) : x = .tuple #[] := by
  cases h with
  | ro h => cases h with
    | tup _ _ vs hl => simp at hl; subst hl; rfl
  | tup _ vs hl => simp at hl; subst hl; rfl
theorem look_bool {tmps : Array Value} {d : Nat} {t : Bool} (h : tmps.getD d undef = .bool t) : tmps[d]? = some (.bool t) := by
  rw [Array.getD_eq_getD_getElem?] at h
  cases hq : tmps[d]? with
  | none => rw [hq] at h; simp [undef] at h
  | some x => rw [hq] at h; simpa using h
theorem wanted_ok [Kept] {ops : Array Oper} {t : Bool} (h : Rel st a w G X F) (hw : wanted ops.toList o st = some t) : Region.wanted o (yielded ops a.tmps) = t := by
  unfold wanted at hw
  unfold Region.wanted
  split at hw
  · rename_i hg
    simp only [hg]
    exact Option.some.inj hw
  · rename_i j b hg
    simp only [hg]
    split at hw
    · rename_i d hd
      split at hw
      · rename_i t' ht
        have h1 := h.slot d
        rw [ht] at h1
        have h2 := look_bool (bool_of_rv h1)
        simp only [Array.getElem?_toList] at hd
        simp only [yielded, hd, Option.bind_some, h2]
        rw [← Option.some.inj hw]
        cases t' <;> cases b <;> rfl
      · rename_i ht
        have h1 := h.slot d
        rw [ht] at h1
        have h2 := skip_of_rv h1
        simp only [Array.getElem?_toList] at hd
        have h3 : ∀ b, a.tmps[d]? ≠ some (.bool b) := fun b e => by
          rw [Array.getD_eq_getD_getElem?, e] at h2
          simp at h2
        rw [← Option.some.inj hw]
        simp only [yielded, hd, Option.bind_some]
        cases hq : a.tmps[d]? with
        | none => rfl
        | some x =>
          cases x with
          | bool b => exact absurd hq (h3 b)
          | _ => rfl
      · simp at hw
    · simp at hw
theorem Rel.setNx [Kept] (h : Rel st a w G X F) (n : Nat) : Rel { st with nx := n } a w G X F := ⟨h.size, h.defers, h.slot, h.box, h.inv, h.free⟩
def Same (K : List Nat) (a a' : Act) : Prop := ∀ i ∈ K, a'.tmps[i]? = a.tmps[i]?
theorem Same.refl (K : List Nat) (a : Act) : Same K a a := fun _ _ => rfl
theorem Same.trans {K : List Nat} {a a' a'' : Act} (h : Same K a a') (h' : Same K a' a'') : Same K a a'' := fun i hi => (h' i hi).trans (h i hi)
def pinned (K : List Nat) (o : Oper) : Bool := match o.dst with | some d => !K.contains d | none => true
theorem Same.put {K : List Nat} {a : Act} {o : Oper} {v : Value} (h : pinned K o = true) : Same K a (a.put o.dst v) := by
  intro i hi
  unfold pinned at h
  cases hd : o.dst with
  | none => rfl
  | some d =>
    rw [hd] at h
    have hne : d ≠ i := fun e => by subst e; simp [hi] at h
    simp only [Act.put]
    rw [Array.getElem?_setIfInBounds, if_neg hne]
def Behind [Kept] (K : List Nat) (a : Act) (w : World) (G : Gh) (X : Nat → Prop) (st' : St) (a' : Act) (w' : World) : Prop :=
  ∃ G', Step false w w' G G' X ∧ Rel st' a' w' G' X (fun i => st'.nx ≤ i) ∧ Same K a a'
theorem cells_rv {w : World} {G : Gh} {v : AV} {x : Value} (h : RV w G v x) : ∀ y ∈ v.cells, ∃ z, RV w G y z := by
  intro y hy
  cases v with
  | agg cs =>
    obtain ⟨j, hj, rfl⟩ := List.getElem_of_mem hy
    cases h with
    | ro h => cases h with
      | agg _ _ vs hl hr => exact ⟨_, .ro (hr j hj)⟩
    | agg _ vs hl hr => exact ⟨_, hr j hj⟩
  | _ =>
    obtain rfl := List.mem_singleton.1 hy
    exact ⟨_, h⟩
theorem evOp_ok [Kept] {nid : Nat} {o : Oper} {st st' : St} {a : Act} {w : World} {G : Gh} {F : Nat → Prop} (h : Rel st a w G X F) (hX : ∀ b, w.heap.size ≤ b → X b) (hF : ∀ i, nid ≤ i → i < nid + 8 → F i) (hΦ : PhiOK E Φ) (he : evOp E Φ nid o st = some st') :
    Yields E.P (fun v w' => ∃ G', Step false w w' G G' X ∧ Rel st' (a.put o.dst v) w' G' X (fun i => F i ∧ ¬ (nid ≤ i ∧ i < nid + 8))) ((execOp a.eval o).run E.P w) := by
  unfold evOp at he
  split at he
  · rename_i t len ps hop
    cases hb : evBuildSlice E.P t len (ps.toList.map fun p => (p.1, st.val p.2)) nid o.dst st with
    | some s =>
      rw [hb] at he
      obtain rfl := Option.some.inj he
      exact ((evBuildSlice_ok h hX (hF nid (Nat.le_refl _) (by omega)) hop hb).less fun i hi => ⟨hi.1, fun e => hi.2 (by omega)⟩).yields
    | none =>
      rw [hb] at he
      simp only [takeT] at he
      split at he
      · obtain ⟨s0, h0, he⟩ := Option.bind_eq_some_iff.1 he
        obtain ⟨G1, h1, hs1⟩ := h.take (hF (nid + 1) (by omega) (by omega)) (fun y hy => by
          obtain ⟨p, _, hp⟩ := List.mem_flatMap.1 hy
          exact cells_rv (h.sees.val p.2) y hp) h0
        refine (((evBuildSlice_ok h1 hX ⟨hF nid (Nat.le_refl _) (by omega), by omega⟩ hop he).less (F2 := fun i => F i ∧ ¬ (nid ≤ i ∧ i < nid + 8)) fun i hi => ⟨⟨hi.1, fun e => hi.2 (by omega)⟩, fun e => hi.2 (by omega)⟩).yields).mono ?_
        rintro v w' ⟨G', g1, g2⟩
        exact ⟨G', hs1.trans g1, g2⟩
      · simp at he
  · exact evOp0_ok h hX hF hΦ he
theorem evOps_ok [Kept] {ops : Array Oper} {K : List Nat} (hΦ : PhiOK E Φ) {Q : Exit → Act → World → Prop} :
    ∀ (l : List Oper) (nid : Nat) (st : St) (a : Act) (w : World) (G : Gh), (l.all (pinned K) = true) → Rel st a w G X (fun i => nid ≤ i) → (∀ b, w.heap.size ≤ b → X b) → evOps E Φ ops.toList nid l st = some st' →
      (∀ a' w' G', Step false w w' G G' X → Rel st' a' w' G' X (fun i => nid + 8 * l.length ≤ i) → Same K a a' → Q .normal a' w') → wpList E.P ops Q l a w
  | [], nid, st, a, w, G, hp, h, hX, he, hQ => by
    simp only [evOps, Option.some.injEq] at he
    subst he
    exact hQ a w G (Step.refl _ _ _ _) (h.weaken fun i hi => by simpa using hi) (Same.refl _ _)
  | o :: r, nid, st, a, w, G, hp, h, hX, he, hQ => by
    simp only [List.all_cons, Bool.and_eq_true] at hp
    simp only [evOps] at he
    obtain ⟨t, hw, he⟩ := Option.bind_eq_some_iff.1 he
    refine wpList_step fun Kn hK => ?_
    rw [wanted_ok h hw]
    have hlen : ∀ i, nid + 8 * (o :: r).length ≤ i → nid + 8 + 8 * r.length ≤ i := fun i hi => by simp only [List.length_cons] at hi; omega
    cases t with
    | true =>
      simp only [if_true] at he ⊢
      obtain ⟨st1, h1, he⟩ := Option.bind_eq_some_iff.1 he
      refine (evOp_ok h hX (fun i h1 _ => h1) hΦ h1).wp ?_
      rintro v w' ⟨G', hs, hr⟩
      refine hK _ _ (evOps_ok hΦ r (nid + 8) st1 _ w' G' hp.2 (hr.weaken fun i hi => ⟨by omega, by omega⟩) (fun b hb => hX b (Nat.le_trans hs.size hb)) he ?_)
      intro a' w2 G2 hs2 hr2 hsm
      exact hQ a' w2 G2 (hs.trans hs2) (hr2.weaken hlen) ((Same.put hp.1).trans hsm)
    | false =>
      simp only [Bool.false_eq_true, if_false] at he ⊢
      obtain ⟨st1, h1, he⟩ := Option.bind_eq_some_iff.1 he
      refine hK _ _ (evOps_ok hΦ r (nid + 8) st1 _ w G hp.2 (((h.put rvSkip h1).1).weaken fun i hi => by omega) hX he ?_)
      intro a' w2 G2 hs2 hr2 hsm
      exact hQ a' w2 G2 hs2 (hr2.weaken hlen) ((Same.put hp.1).trans hsm)
end
end Go.Proofs.Ytggkeechdakccaa.Flat
/-
A region whose order the machine may choose.
-/
namespace Go.Proofs.Ytggkeechdakccaa.Flat
section
variable {E : Env} {Φ : Phi} {o : Oper}
def tmpsOf (op : Op) : List Nat := op.operands.toList.filterMap fun | .tmp t => some t | _ => none
theorem val_congr {V V' : St} {op : Op} (h : ∀ t ∈ tmpsOf op, V'.get t = V.get t) : ∀ x ∈ op.operands.toList, V'.val x = V.val x := by
  intro x hx
  cases x with
  | tmp t => exact h t (List.mem_filterMap.2 ⟨.tmp t, hx, rfl⟩)
  | _ => rfl
theorem behind_mono {bx bx' : Nat → Option (List AV)} {p : AV} (hb : ∀ id off cs, p = .ptr id off → bx id = some cs → bx' id = some cs) {cs : List AV} (h : behind bx p = some cs) : behind bx' p = some cs := by
  cases p with
  | ptr id off =>
    simp only [behind] at h ⊢
    obtain ⟨ds, h1, h2⟩ := Option.map_eq_some_iff.1 h
    exact Option.map_eq_some_iff.2 ⟨ds, hb _ _ _ rfl h1, h2⟩
  | eptr d id fz e sz xs i off => cases d <;> exact h
  | _ => exact h
theorem evFree_congr {bx bx' : Nat → Option (List AV)} {n n' : Nat} {val val' : Operand → AV} {op : Op} {r : AV × List Nat} (hc : isCallV op = false) (hb : ∀ t p, op = .load t p → ∀ id off cs, val p = .ptr id off → bx id = some cs → bx' id = some cs)
    (hv : ∀ x ∈ op.operands.toList, val' x = val x) (h : evFree E Φ bx n val op = some r) : evFree E Φ bx' n' val' op = some r := by
  have hopt : ∀ (lo : Option Operand), (∀ x ∈ lo, val' x = val x) → optAV val' lo = optAV val lo := by
    intro lo hlo
    cases lo with
    | none => rfl
    | some x => simp only [optAV]; rw [hlo x rfl]
  cases op <;> simp only [Op.operands] at hv <;> try (exact h)
  case load t p =>
    simp only [evFree] at h ⊢
    rw [hv p (by simp)]
    obtain ⟨v, h1, h2⟩ := Option.map_eq_some_iff.1 h
    refine Option.map_eq_some_iff.2 ⟨v, ?_, h2⟩
    unfold evLoad at h1 ⊢
    obtain ⟨ti, h3, h4⟩ := Option.bind_eq_some_iff.1 h1
    obtain ⟨cs, h5, h6⟩ := Option.bind_eq_some_iff.1 h4
    exact Option.bind_eq_some_iff.2 ⟨ti, h3, Option.bind_eq_some_iff.2 ⟨cs, behind_mono (hb t p rfl) h5, h6⟩⟩
  case build t ps =>
    simp only [evFree] at h ⊢
    have : (ps.toList.map fun p => (p.1, val' p.2)) = ps.toList.map fun p => (p.1, val p.2) := List.map_congr_left fun p hp => by rw [hv p.2 (by simpa using ⟨p.1, by simpa using hp⟩)]
    rw [this]; exact h
  case slice t x lo hi mx =>
    cases mx with
    | some m => simp [evFree] at h
    | none =>
      simp only [evFree] at h ⊢
      rw [hv x (by simp), hopt lo (fun y hy => hv y (by simp at hy; subst hy; simp)), hopt hi (fun y hy => hv y (by simp at hy; subst hy; simp))]
      exact h
  case makeFunc f first cs =>
    cases f with
    | func f =>
      simp only [evFree] at h ⊢
      have : cs.toList.map val' = cs.toList.map val := List.map_congr_left fun p hp => hv p (by simp at hp ⊢; exact .inr hp)
      rw [this]; exact h
    | _ => simp [evFree] at h
  case call c =>
    obtain ⟨callee, args, ats⟩ := c
    simp only [Call.operands] at hv
    have hargs : args.toList.map val' = args.toList.map val := List.map_congr_left fun p hp => hv p (by simp at hp ⊢; exact .inr hp)
    cases callee with
    | value f => simp [isCallV] at hc
    | invoke => simp [evFree] at h
    | builtin b =>
      cases b <;> first | (simp [evFree] at h; done) | skip
      · simp only [evFree] at h ⊢
        cases ha : args.toList with
        | nil => rw [ha] at h; simp at h
        | cons x r =>
          cases r with
          | nil =>
            have hx : val' x = val x := hv x (by have : x ∈ args.toList := by rw [ha]; simp
                                                 simp only [Array.toList_append, List.mem_append]; exact .inr this)
            rw [ha] at h
            cases hq : ats[0]? with
            | none => simp [hq] at h
            | some t =>
              simp only [hq] at h ⊢
              rw [hx]; exact h
          | cons y r => rw [ha] at h; simp at h
      all_goals
        simp only [evFree] at h ⊢
        rw [hargs]; exact h
  all_goals
    simp only [evFree] at h ⊢
    simp_all
end
end Go.Proofs.Ytggkeechdakccaa.Flat
/-
Quiet operations.
-/
namespace Go.Proofs.Ytggkeechdakccaa.Flat
section
variable {E : Env} {Φ : Phi} {o : Oper} {st st' : St} {nid : Nat}
def Quiet (st st' : St) (dst : Option Nat) : Prop := (∀ t, dst ≠ some t → st'.get t = st.get t) ∧ (∀ id cs, st.box id = some cs → st'.box id = some cs)
theorem put_quiet {dst : Option Nat} {v : AV} (h : st.put dst v = some st') : Quiet st st' dst := by
  unfold St.put at h
  cases dst with
  | none =>
    obtain rfl := Option.some.inj h
    exact ⟨fun _ _ => rfl, fun _ _ hc => hc⟩
  | some d =>
    simp only at h
    split at h
    · obtain rfl := Option.some.inj h
      refine ⟨fun t ht => ?_, fun _ _ hc => hc⟩
      simp only [St.get, look_cons]
      rw [if_neg (fun e => ht (by rw [e]))]
    · simp at h
theorem put_slot {d : Nat} {v : AV} (h : st.put (some d) v = some st') : st'.get d = v := by
  unfold St.put at h
  simp only at h
  split at h
  · obtain rfl := Option.some.inj h
    simp [St.get, look_cons]
  · simp at h
theorem setBox_quiet {cs : List AV} (hn : st.box nid = none) : Quiet st (st.setBox nid cs) none :=
  ⟨fun _ _ => rfl, fun id ds hd => by
    simp only [St.box, St.setBox, look_cons]
    rw [if_neg (fun e => by rw [e, hn] at hd; simp at hd)]
    exact hd⟩
theorem Quiet.trans {st1 : St} {dst : Option Nat} (h : Quiet st st1 none) (h' : Quiet st1 st' dst) : Quiet st st' dst :=
  ⟨fun t ht => (h'.1 t ht).trans (h.1 t (by simp)), fun id cs hc => h'.2 id cs (h.2 id cs hc)⟩
theorem evOpQ_op (h : evOpQ E Φ nid o st = some st') : evOp0 E Φ nid o st = some st' := by
  unfold evOpQ at h
  unfold evOp0
  split at h
  · rename_i hop; simp only [hop]; exact h
  · rename_i hop; simp only [hop]; exact h
  · rename_i hop
    simp only [hop]
    split at h
    · exact h
    · simp at h
  · rename_i hop; simp only [hop]; exact h
  · rename_i hop; simp only [hop, evFree, Option.bind_some]; exact h
  · rename_i as ts hop
    simp only [hop]
    split at h
    · split at h
      · rename_i s x t u h1 h2 _ hnil
        rw [hnil]
        split at h
        · exact h
        · simp at h
      · simp at h
    · simp at h
  · rename_i f as ats hop
    simp only [hop]
    split at h
    · rename_i n caps hf
      split at h
      · rename_i hm
        unfold evCall
        rw [if_pos hm]
        obtain ⟨⟨v, ids⟩, hv, hp⟩ := Option.bind_eq_some_iff.1 h
        refine Option.bind_eq_some_iff.2 ⟨(v, ids), hv, ?_⟩
        simp only at hp ⊢
        cases ids with
        | nil => exact hp
        | cons => simp at hp
      · simp at h
    · simp at h
  · simp at h
theorem evOpQ_quiet (hn : st.box nid = none) (h : evOpQ E Φ nid o st = some st') : Quiet st st' o.dst := by
  unfold evOpQ at h
  split at h
  · unfold evAlloc at h
    obtain ⟨ti, _, h⟩ := Option.bind_eq_some_iff.1 h
    obtain ⟨z, _, h⟩ := Option.bind_eq_some_iff.1 h
    obtain ⟨cs, _, h⟩ := Option.bind_eq_some_iff.1 h
    exact (setBox_quiet hn).trans (put_quiet h)
  · unfold evBox at h
    split at h
    · exact (setBox_quiet hn).trans (put_quiet h)
    · simp at h
  · split at h
    · rename_i hr
      unfold evBuildSlice at h
      split at h
      · obtain ⟨ti, _, h⟩ := Option.bind_eq_some_iff.1 h
        obtain ⟨te, _, h⟩ := Option.bind_eq_some_iff.1 h
        obtain ⟨xs, _, h⟩ := Option.bind_eq_some_iff.1 h
        split at h
        · rw [List.flatMap_map, hr] at h
          have e : St.laid [] st = st := by unfold St.laid; split <;> rfl
          rw [e] at h
          exact put_quiet h
        · simp at h
      · simp at h
    · simp at h
  · unfold evMakeSlice at h
    split at h
    · obtain ⟨ti, _, h⟩ := Option.bind_eq_some_iff.1 h
      obtain ⟨te, _, h⟩ := Option.bind_eq_some_iff.1 h
      obtain ⟨xs, _, h⟩ := Option.bind_eq_some_iff.1 h
      split at h
      · split at h
        · exact put_quiet h
        · simp at h
      · simp at h
    · simp at h
  · exact put_quiet h
  · split at h
    · split at h
      · split at h
        rotate_left
        · simp at h
        rename_i hsp
        unfold evAppend at h
        rw [hsp] at h
        split at h
        · obtain ⟨ti, _, h⟩ := Option.bind_eq_some_iff.1 h
          obtain ⟨te, _, h⟩ := Option.bind_eq_some_iff.1 h
          obtain ⟨ys, _, h⟩ := Option.bind_eq_some_iff.1 h
          split at h
          · simp only at h
            split at h
            · exact put_quiet h
            · simp at h
          · simp at h
        · simp at h
      · simp at h
    · simp at h
  · split at h
    · split at h
      · obtain ⟨⟨v, ids⟩, hv, hp⟩ := Option.bind_eq_some_iff.1 h
        simp only at hp
        cases ids with
        | nil => exact put_quiet hp
        | cons => simp at hp
      · simp at h
    · simp at h
  · simp at h
theorem evOp0_free (hc : isEff o.op = false) : evOpP E Φ nid o st = (evFree E Φ st.box nid st.val o.op).bind fun (v, _) => st.put o.dst v := by
  unfold evOpP
  split
  · rfl
  · rename_i hn
    unfold evOp0
    split
    all_goals first
      | (rename_i hop; rw [hop] at hc; simp [isEff] at hc; done)
      | (rename_i hop; exact absurd hop (hn _ _ _ _ _))
      | rfl
theorem evOpP_eff (hc : isEff o.op = true) : evOpP E Φ nid o st = evOp0 E Φ nid o st := by
  unfold evOpP
  split
  · rename_i hop; rw [hop] at hc; simp [isEff] at hc
  · rfl
theorem eff_call (hc : isEff o.op = false) : isCallV o.op = false := by
  unfold isCallV
  split
  · rename_i hop; rw [hop] at hc; simp [isEff] at hc
  · rfl
mutual
theorem mapO_keep {f : Nat → Bool → Nat → Nat → List AV → AV} {h : Bool → Nat → Bool → Nat → Nat → List AV → Nat → Nat → AV} {S : Nat → Prop} (hf : ∀ id fz e sz xs, S id → f id fz e sz xs = .own id fz e sz xs) (hh : ∀ d id fz e sz xs i k, S id → h d id fz e sz xs i k = .eptr d id fz e sz xs i k) :
    ∀ v : AV, (∀ i ∈ v.rows, S i) → v.mapO f .ptr h (fun _ => .nils) = v
  | .own id fz e sz xs, hr => hf id fz e sz xs (hr id (by simp [AV.rows]))
  | .eptr d id fz e sz xs i k, hr => hh d id fz e sz xs i k (hr id (by simp [AV.rows]))
  | .agg cs, hr => by simp only [AV.mapO]; rw [mapOs_keep hf hh cs (by simpa [AV.rows] using hr)]
  | .tup cs, hr => by simp only [AV.mapO]; rw [mapOs_keep hf hh cs (by simpa [AV.rows] using hr)]
  | .clo n cs, hr => by simp only [AV.mapO]; rw [mapOs_keep hf hh cs (by simpa [AV.rows] using hr)]
  | .ptr _ _, _ => rfl
  | .undef, _ => rfl
  | .int _ _, _ => rfl
  | .bool _, _ => rfl
  | .str _, _ => rfl
  | .nils, _ => rfl
  | .sl _ _, _ => rfl
  | .cptr _, _ => rfl
  | .tr _ _ _, _ => rfl
  | .gone, _ => rfl
theorem mapOs_keep {f : Nat → Bool → Nat → Nat → List AV → AV} {h : Bool → Nat → Bool → Nat → Nat → List AV → Nat → Nat → AV} {S : Nat → Prop} (hf : ∀ id fz e sz xs, S id → f id fz e sz xs = .own id fz e sz xs) (hh : ∀ d id fz e sz xs i k, S id → h d id fz e sz xs i k = .eptr d id fz e sz xs i k) :
    ∀ vs : List AV, (∀ i ∈ AV.rowss vs, S i) → AV.mapOs f .ptr h (fun _ => .nils) vs = vs
  | [], _ => rfl
  | v :: vs, hr => by
    simp only [AV.mapOs]
    rw [mapO_keep hf hh v (fun i hi => hr i (by simp only [AV.rowss]; exact List.mem_append_left _ hi)), mapOs_keep hf hh vs (fun i hi => hr i (by simp only [AV.rowss]; exact List.mem_append_right _ hi))]
end
def Keeps (ids : List Nat) (st st' : St) : Prop := (∀ t, (∀ i ∈ (st.get t).rows, i ∉ ids) → st'.get t = st.get t) ∧ (∀ id cs, st.box id = some cs → (∀ i ∈ AV.rowss cs, i ∉ ids) → st'.box id = some cs)
theorem keeps_refl {ids : List Nat} : Keeps ids st st := ⟨fun _ _ => rfl, fun _ _ h _ => h⟩
theorem keeps_mapO {ids : List Nat} {f : Nat → Bool → Nat → Nat → List AV → AV} {h : Bool → Nat → Bool → Nat → Nat → List AV → Nat → Nat → AV} (hf : ∀ id fz e sz xs, id ∉ ids → f id fz e sz xs = .own id fz e sz xs) (hh : ∀ d id fz e sz xs i k, id ∉ ids → h d id fz e sz xs i k = .eptr d id fz e sz xs i k) : Keeps ids st (st.mapO f .ptr h) := by
  refine ⟨fun t ht => ?_, fun id cs hc hr => ?_⟩
  · rw [St.get_mapO]
    exact mapO_keep (S := (· ∉ ids)) hf hh _ ht
  · rw [St.box_mapO, hc]
    simp only [Option.map_some]
    congr 1
    rw [← AV.mapOs_eq]
    exact mapOs_keep (S := (· ∉ ids)) hf hh _ hr
theorem keeps_scrub {ids js : List Nat} (h : ∀ i ∈ js, i ∈ ids) : Keeps ids st (st.scrub js) := by
  unfold St.scrub
  split
  · exact keeps_refl
  · exact keeps_mapO (fun id fz e sz xs hi => if_neg fun hj => hi (h id hj)) (fun d id fz e sz xs i k hi => if_neg fun hj => hi (h id hj))
theorem keeps_freeze {ids js : List Nat} (h : ∀ i ∈ js, i ∈ ids) : Keeps ids st (st.freeze js) := by
  unfold St.freeze
  split
  · exact keeps_refl
  · exact keeps_mapO (fun id fz e sz xs hi => if_neg fun hj => hi (h id hj)) (fun d id fz e sz xs i k hi => if_neg fun hj => hi (h id hj))
theorem keeps_laid {ids js : List Nat} (h : ∀ i ∈ js, i ∈ ids) : Keeps ids st (st.laid js) := by
  unfold St.laid
  split
  · exact keeps_scrub h
  · exact keeps_freeze h
theorem keeps_put {ids : List Nat} {s1 : St} {dst : Option Nat} {v : AV} (h : Keeps ids st s1) (hp : s1.put dst v = some st') : (∀ t, dst ≠ some t → (∀ i ∈ (st.get t).rows, i ∉ ids) → st'.get t = st.get t) ∧ (∀ id cs, st.box id = some cs → (∀ i ∈ AV.rowss cs, i ∉ ids) → st'.box id = some cs) :=
  ⟨fun t ht hr => ((put_quiet hp).1 t ht).trans (h.1 t hr), fun id cs hc hr => (put_quiet hp).2 id cs (h.2 id cs hc hr)⟩
theorem touched_keeps {ids : List Nat} (ht : touched o st = some ids) (h : evOp0 E Φ nid o st = some st') : (∀ t, o.dst ≠ some t → (∀ i ∈ (st.get t).rows, i ∉ ids) → st'.get t = st.get t) ∧ (∀ id cs, st.box id = some cs → (∀ i ∈ AV.rowss cs, i ∉ ids) → st'.box id = some cs) := by
  unfold touched at ht
  split at ht
  · rename_i t len ps hop
    obtain rfl := Option.some.inj ht
    unfold evOp0 at h
    rw [hop] at h
    simp only at h
    unfold evBuildSlice at h
    split at h
    · obtain ⟨ti, _, h⟩ := Option.bind_eq_some_iff.1 h
      obtain ⟨te, _, h⟩ := Option.bind_eq_some_iff.1 h
      obtain ⟨xs, _, h⟩ := Option.bind_eq_some_iff.1 h
      split at h
      · exact keeps_put (keeps_laid (fun i hi => by rw [List.flatMap_map] at hi; exact hi)) h
      · simp at h
    · simp at h
  · rename_i as ts hop
    unfold evOp0 at h
    rw [hop] at h
    simp only at h
    split at ht
    · rename_i s x hsx
      obtain rfl := Option.some.inj ht
      rw [hsx] at h
      split at h
      · rename_i heq _
        injection heq with h1 h2
        injection h2 with h2 _
        subst h1; subst h2
        unfold evAppend at h
        split at h
        · obtain ⟨ti, _, h⟩ := Option.bind_eq_some_iff.1 h
          obtain ⟨te, _, h⟩ := Option.bind_eq_some_iff.1 h
          obtain ⟨ys, _, h⟩ := Option.bind_eq_some_iff.1 h
          split at h
          · split at h
            · split at h
              · exact keeps_put (keeps_scrub (fun i hi => List.mem_append_right _ hi)) h
              · simp at h
            · rename_i id fz e sz xs hs
              split at h
              · refine keeps_put (keeps_scrub (fun i hi => ?_)) h
                rw [hs]
                rcases List.mem_cons.1 hi with rfl | hi
                · exact List.mem_append_left _ (by simp [AV.rows])
                · exact List.mem_append_right _ hi
              · simp at h
            · simp at h
          · simp at h
        · simp at h
      · simp at h
    · simp at ht
  · simp at ht
theorem setBoxes_slot : ∀ {k : Nat} {ids : List Nat} {css : List (List AV)} {s : St} {t : Nat}, (setBoxes nid k ids css s).get t = s.get t
  | k, id :: ids, cs :: css, s, t => by simp only [setBoxes]; rw [setBoxes_slot]; rfl
  | k, [], cs :: css, s, t => by simp only [setBoxes]; rw [setBoxes_slot]; rfl
  | _, [], [], _, _ => rfl
  | _, _ :: _, [], _, _ => rfl
theorem setBoxes_box : ∀ {k : Nat} {ids : List Nat} {css : List (List AV)} {s : St} {id : Nat}, id ∉ ids → (∀ j, k ≤ j → j < k + css.length → id ≠ nid + j) → (setBoxes nid k ids css s).box id = s.box id
  | k, i :: ids, cs :: css, s, id, hi, hj => by
    simp only [setBoxes]
    rw [setBoxes_box (fun h => hi (List.mem_cons_of_mem _ h)) fun j h1 h2 => hj j (by omega) (by simp only [List.length_cons]; omega)]
    simp only [St.box, St.setBox, look_cons]
    rw [if_neg (fun e => hi (by rw [e]; exact List.mem_cons_self))]
  | k, [], cs :: css, s, id, hi, hj => by
    simp only [setBoxes]
    rw [setBoxes_box (by simp) fun j h1 h2 => hj j (by omega) (by simp only [List.length_cons]; omega)]
    simp only [St.box, St.setBox, look_cons]
    rw [if_neg (fun e => hj k (Nat.le_refl _) (by simp only [List.length_cons]; omega) e)]
  | _, [], [], _, _, _, _ => rfl
  | _, _ :: _, [], _, _, _, _ => rfl
theorem Keeps.trans {ids : List Nat} {s1 s2 : St} (h : Keeps ids st s1) (h' : Keeps ids s1 s2) : Keeps ids st s2 :=
  ⟨fun t ht => (h'.1 t (by rw [h.1 t ht]; exact ht)).trans (h.1 t ht), fun id cs hc hr => h'.2 id cs (h.2 id cs hc hr) hr⟩
theorem mutArgs_nil : ∀ {md : List Mode} {vs : List AV}, md.all (· != .mut) = true → mutArgs (md.zip vs) = []
  | [], _, _ => rfl
  | _ :: _, [], _ => rfl
  | m :: md, v :: vs, h => by
    simp only [List.all_cons, Bool.and_eq_true] at h
    have ih := mutArgs_nil (vs := vs) h.2
    cases m <;> first | exact absurd h.1 (by decide) | exact ih
theorem give_keeps {f : Nat} {args : List (Mode × AV)} {dst : Option Nat} (hm : mutArgs args = []) (h : evGive Φ nid f args dst st = some st') :
    (∀ t, dst ≠ some t → (∀ i ∈ (st.get t).rows, i ∉ giveRows st.box args ++ (roArgs args).flatMap AV.rows) → st'.get t = st.get t) ∧
    (∀ id cs, st.box id = some cs → (∀ i ∈ AV.rowss cs, i ∉ giveRows st.box args ++ (roArgs args).flatMap AV.rows) → id ∉ ioBoxes args → (id < nid ∨ nid + 8 ≤ id) → st'.box id = some cs) := by
  unfold evGive at h
  simp only [hm] at h
  split at h
  · obtain ⟨⟨ret, fin⟩, _, h⟩ := Option.bind_eq_some_iff.1 h
    simp only at h
    split at h
    · rename_i hsm
      simp only [if_true] at h
      split at h
      · have hk : ∀ ids', (∀ i ∈ ids', i ∈ (roArgs args).flatMap AV.rows) → Keeps (giveRows st.box args ++ (roArgs args).flatMap AV.rows) st ((st.freeze ids').back nid (giveRows st.box args) []) := fun ids' hi =>
          (keeps_freeze fun i h => List.mem_append_right _ (hi i h)).trans (keeps_mapO (fun id fz e sz xs hn => if_neg fun hg => hn (List.mem_append_left _ hg)) (fun d id fz e sz xs i k hn => if_neg fun hg => hn (List.mem_append_left _ hg)))
        have hk2 := hk (if (noref ret && fin.all fun cs => cs.all noref) = true then [] else (roArgs args).flatMap AV.rows) (by
          intro i hi
          split at hi
          · simp at hi
          · exact hi)
        refine ⟨fun t ht hr => ((put_quiet h).1 t ht).trans (setBoxes_slot.trans (hk2.1 t hr)), fun id cs hc hr hio hid => (put_quiet h).2 id cs ?_⟩
        rw [setBoxes_box hio fun j h1 h2 => by have := hsm.2.2; omega]
        exact hk2.2 id cs hc hr
      · simp at h
    · simp at h
  · simp at h
theorem slid_keeps {p : List Nat × List Nat} (ht : slid E o st = some p) (h : evOp0 E Φ nid o st = some st') : (∀ t, o.dst ≠ some t → (∀ i ∈ (st.get t).rows, i ∉ p.1) → st'.get t = st.get t) ∧
    (∀ id cs, st.box id = some cs → (∀ i ∈ AV.rowss cs, i ∉ p.1) → id ∉ p.2 → (id < nid ∨ nid + 8 ≤ id) → st'.box id = some cs) := by
  unfold slid at ht
  split at ht
  · rename_i f as ats hop
    split at ht
    · rename_i n hf
      split at ht
      · rename_i hmd
        obtain rfl := Option.some.inj ht
        unfold evOp0 at h
        rw [hop] at h
        simp only [hf] at h
        unfold evCall at h
        rw [if_neg (by rw [hmd.1]; simp)] at h
        simp only at h
        split at h
        · split at h
          · rename_i hq _
            rw [hq] at hmd
            simp at hmd
          · exact give_keeps (mutArgs_nil hmd.2) h
        · simp at h
      · simp at ht
    · simp at ht
  · rename_i t p x hop
    split at ht
    · rename_i id off hp
      obtain rfl := Option.some.inj ht
      unfold evOp0 at h
      rw [hop] at h
      simp only [hp] at h
      unfold evStore at h
      obtain ⟨ti, _, h⟩ := Option.bind_eq_some_iff.1 h
      split at h
      · simp only at h
        obtain ⟨cs0, _, h⟩ := Option.bind_eq_some_iff.1 h
        split at h
        · refine ⟨fun t ht hr => (put_quiet h).1 t ht, fun id' cs hc hr hio hid => (put_quiet h).2 id' cs ?_⟩
          simp only [St.box, St.setBox, look_cons]
          rw [if_neg (fun e => hio (by rw [e]; exact List.mem_singleton.2 rfl))]
          exact hc
        · simp at h
      · simp at h
    · simp at ht
  · simp at ht
def Soft (st st' : St) (dst : Option Nat) (ld l : List Nat) : Prop := (∀ t ∈ l, dst ≠ some t → st'.get t = st.get t) ∧ (∀ t ∈ ld, ∀ id off cs, st.get t = .ptr id off → st.box id = some cs → st'.box id = some cs)
theorem evOpS_op {ld l : List Nat} (h : evOpS E Φ nid o st ld l = some st') : evOp0 E Φ nid o st = some st' := by
  unfold evOpS at h
  split at h
  · split at h
    · exact h
    · simp at h
  · obtain ⟨p, _, h⟩ := Option.bind_eq_some_iff.1 h
    split at h
    · exact h
    · simp at h
theorem evOpS_soft {ld l : List Nat} (h : evOpS E Φ nid o st ld l = some st') : Soft st st' o.dst ld l := by
  unfold evOpS at h
  split at h
  · rename_i ids ht
    split at h
    · rename_i hc
      rw [Bool.and_eq_true] at hc
      have hk := touched_keeps ht h
      have hcalm := fun t ht => List.all_eq_true.1 hc.1 t ht
      have hcalm2 := fun t ht => List.all_eq_true.1 hc.2 t ht
      refine ⟨fun t htl hd => hk.1 t hd fun i hi => ?_, fun t htl id off cs hp hb => hk.2 id cs hb fun i hi => ?_⟩
      · have := hcalm t htl
        unfold calm at this
        rw [Bool.and_eq_true] at this
        simpa using List.all_eq_true.1 this.1 i hi
      · have := hcalm2 t htl
        unfold calm at this
        rw [hp, Bool.and_eq_true] at this
        simp only [hb, Bool.not_true, Bool.false_or] at this
        simpa using List.all_eq_true.1 this.2 i hi
    · simp at h
  · obtain ⟨p, ht, h⟩ := Option.bind_eq_some_iff.1 h
    split at h
    · rename_i hc
      rw [Bool.and_eq_true] at hc
      have hk := slid_keeps ht h
      have hcalm := fun t ht => List.all_eq_true.1 hc.1 t ht
      have hcalm2 := fun t ht => List.all_eq_true.1 hc.2 t ht
      refine ⟨fun t htl hd => hk.1 t hd fun i hi => ?_, fun t htl id off cs hp hb => ?_⟩
      · have := hcalm t htl
        unfold calm at this
        rw [Bool.and_eq_true] at this
        simpa using List.all_eq_true.1 this.1 i hi
      · have := hcalm2 t htl
        rw [Bool.and_eq_true] at this
        have h1 := this.1
        have h2 := this.2
        unfold calm at h1
        unfold away at h2
        rw [hp] at h1 h2
        rw [Bool.and_eq_true] at h1
        simp only [hb, Bool.not_true, Bool.false_or, Bool.and_eq_true, Bool.or_eq_true, Bool.not_eq_true', decide_eq_true_eq, decide_eq_false_iff_not] at h1 h2
        exact hk.2 id cs hb (fun i hi => by simpa using List.all_eq_true.1 h1.2 i hi) h2.1 h2.2
    · simp at h
end
end Go.Proofs.Ytggkeechdakccaa.Flat
/-
A region whose order the machine may choose: the order of the plan stands for all.
-/
namespace Go.Proofs.Ytggkeechdakccaa.Flat
theorem look_isSome {α : Type} {i : Nat} {l : List (Nat × α)} (h : (look i l).isSome = true) : ∃ v, (i, v) ∈ l := by
  obtain ⟨v, hv⟩ := Option.isSome_iff_exists.1 h
  exact ⟨v, look_mem hv⟩
section
variable {E : Env} {Φ : Phi} {ops : Array Oper} {L : Nat → Prop} {fl al : List Nat}
def Closed (ops : Array Oper) (L : Nat → Prop) : Prop := ∀ i o, L i → ops[i]? = some o → ∀ d ∈ deps o, L d
def Tab (ops : Array Oper) (seen : List (Nat × List Nat)) : Prop := ∀ i l, look i seen = some l → ∀ L : Nat → Prop, Closed ops L → L i → ∀ j ∈ l, L j
def Cov (ops : Array Oper) (fl al : List Nat) (o : Oper) : Prop := ∀ L : Nat → Prop, Closed ops L → (∀ d ∈ deps o, L d) → ∀ j q t, ops[j]? = some q → (hard fl j q = false ∨ al.contains j = true) → q.dst = some t → t ∈ o.looksAt ops → L j
def Topo (ops : Array Oper) : List (Nat × List Nat) → Prop
  | [] => True
  | (i, _) :: r => (∃ o, ops[i]? = some o ∧ ∀ d ∈ deps o, (look d r).isSome = true) ∧ Topo ops r
theorem mem_dedupN {i : Nat} : ∀ {l : List Nat}, i ∈ dedupN l → i ∈ l
  | [], h => h
  | j :: r, h => by
    simp only [dedupN] at h
    split at h
    · exact List.mem_cons_of_mem _ (mem_dedupN h)
    · rcases List.mem_cons.1 h with rfl | h
      · exact List.mem_cons_self
      · exact List.mem_cons_of_mem _ (mem_dedupN h)
theorem anc_in {seen : List (Nat × List Nat)} {o : Oper} (ht : Tab ops seen) (hc : Closed ops L) (hd : ∀ d ∈ deps o, L d) : ∀ j ∈ ancOf seen o, L j := by
  intro j hj
  have := mem_dedupN hj
  rcases List.mem_append.1 this with h | h
  · exact hd j h
  · obtain ⟨d, h1, h2⟩ := List.mem_flatMap.1 h
    cases hl : look d seen with
    | none => rw [hl] at h2; simp at h2
    | some l => rw [hl] at h2; exact ht d l hl L hc (hd d h1) j h2
theorem Tab.cons {seen : List (Nat × List Nat)} {i : Nat} {o : Oper} (ht : Tab ops seen) (ho : ops[i]? = some o) : Tab ops ((i, ancOf seen o) :: seen) := by
  intro j l hl L hc hj
  rw [look_cons] at hl
  split at hl
  · rename_i e
    subst e
    obtain rfl := Option.some.inj hl
    exact anc_in ht hc (hc j o hj ho)
  · exact ht j l hl L hc hj
structure Head (ops : Array Oper) (fl al : List Nat) (q : Qt) (i : Nat) (r : List (Qt × Nat)) (seen : List (Nat × List Nat)) (last : Option Nat) (o : Oper) : Prop where
  dep : ∀ d ∈ deps o, (look d seen).isSome = true
  new : look i seen = none
  chain : ∀ e, last = some e → al.contains i = true ∨ e ∈ ancOf seen o
  reads : ∀ j p t, ops[j]? = some p → (hard fl j p = false ∨ al.contains j = true) → p.dst = some t → t ∈ o.looksAt ops → j ∈ ancOf seen o
  war : (hard fl i o = true ∧ al.contains i = false ∧ ∀ j p, (look j seen).isSome = true → ops[j]? = some p → j ∈ ancOf seen o ∨ hard fl j p = true) ∨ ∀ j, (look j seen).isSome = true → ∃ p, ops[j]? = some p ∧ ∀ t, o.dst = some t → t ∉ p.looksAt ops ∧ p.dst ≠ some t
  self : ∀ t, o.dst = some t → t ∉ o.looksAt ops
  calmed : hard fl i o = false → ∀ j p t, (look j seen).isSome = true → fl.contains j = true → ops[j]? = some p → isLit p = true → p.dst = some t → t ∈ o.looksAt ops → settled seen last j = true
  pure : isEff o.op = false → q = .no ∧ ∃ d, o.dst = some d
  lit : isEff o.op = true → hard fl i o = false → (q = .quiet ∧ isLit o = true ∨ q = .flo ∧ isCallG o = true ∧ isLit o = false) ∧ ∃ d, o.dst = some d
  eff : hard fl i o = true → (q = .quiet ∨ q = .still) ∨ (∃ ld l, q = .soft ld l ∧ ∀ j p, (look j seen).isSome = true → ops[j]? = some p → j ∈ ancOf seen o ∨ hard fl j p = true ∨ ((isLoad p.op = false ∨ ∀ t ∈ p.looksAt ops, t ∈ ld) ∧ (∀ t ∈ p.looksAt ops, t ∈ l) ∧ ∃ d, p.dst = some d ∧ d ∈ l)) ∨ ∀ j p, (look j seen).isSome = true → ops[j]? = some p → j ∈ ancOf seen o ∨ hard fl j p = true
  allocs : al.contains i = false → ∀ j, (look j seen).isSome = true → al.contains j = true → j ∈ ancOf seen o
  alloc : al.contains i = true → isAlloc o = true ∧ q = .still ∧ (∃ d, o.dst = some d) ∧ fl.contains i = false
  still : hard fl i o = true → q = .still ∨ ∀ s ∈ r, al.contains s.2 = false
  tail : planOK ops fl al r ((i, ancOf seen o) :: seen) (if hard fl i o && !al.contains i then some i else last) = true
theorem dstIn_false {l : List Nat} {d : Option Nat} (h : (!dstIn l d) = true) (t : Nat) (ht : d = some t) : t ∉ l := by
  subst ht
  simpa [dstIn] using h
theorem planOK_head {q : Qt} {i : Nat} {r : List (Qt × Nat)} {seen : List (Nat × List Nat)} {last : Option Nat} (h : planOK ops fl al ((q, i) :: r) seen last = true) : ∃ o, ops[i]? = some o ∧ Head ops fl al q i r seen last o := by
  simp only [planOK] at h
  split at h
  · simp at h
  · rename_i o ho
    simp only [Bool.and_eq_true] at h
    obtain ⟨⟨⟨⟨⟨⟨⟨⟨⟨⟨⟨h1, h2⟩, h3⟩, h4⟩, h5⟩, h6⟩, h0⟩, h7⟩, ha1⟩, ha2⟩, ha3⟩, h8⟩ := h
    refine ⟨o, ho, ?_, ?_, ?_, ?_, ?_, ?_, ?_, ?_, ?_, ?_, ?_, ?_, ?_, by simpa only [Bool.and_eq_true] using h8⟩
    · exact fun d hd => List.all_eq_true.1 h1 d hd
    · cases hl : look i seen with
      | none => rfl
      | some l => rw [hl] at h2; simp at h2
    · intro e he
      subst he
      simp only [Bool.or_eq_true] at h3
      exact h3.imp id fun h => by simpa using h
    · intro j p t hj hne hp ht
      have hjs : j < ops.size := (Array.getElem?_eq_some_iff.1 hj).1
      have := List.all_eq_true.1 h4 j (List.mem_range.2 hjs)
      rw [hj] at this
      simp only [Bool.or_eq_true] at this
      rcases this with (h | h) | h
      · exact absurd ht (dstIn_false h t hp)
      · simpa using h
      · simp only [Bool.and_eq_true, Bool.not_eq_true'] at h
        rcases hne with h9 | h9
        · rw [h9] at h; simp at h
        · rw [h9] at h; simp at h
    · rw [Bool.or_eq_true, Bool.and_eq_true, Bool.and_eq_true] at h5
      refine h5.imp (fun h5 => ⟨h5.1.1, by simpa using h5.1.2, fun j p hj hp => ?_⟩) fun h5 j hj => ?_
      · obtain ⟨l, hl⟩ := look_isSome hj
        have := List.all_eq_true.1 h5.2 _ hl
        simp only at this
        rw [hp] at this
        simp only [Bool.or_eq_true] at this
        exact this.imp (fun h => by simpa using h) id
      obtain ⟨l, hl⟩ := look_isSome hj
      have := List.all_eq_true.1 h5 _ hl
      simp only at this
      split at this
      · rename_i p hp
        refine ⟨p, hp, fun t ht => ?_⟩
        simp only [Bool.and_eq_true, Bool.or_eq_true] at this
        refine ⟨dstIn_false this.1 t ht, fun e => ?_⟩
        rcases this.2 with h | h
        · rw [ht] at h; simp at h
        · rw [ht, e] at h; simp at h
      · simp at this
    · exact fun t ht => dstIn_false h6 t ht
    · intro hh j p t hj hfl hp hlp hd ht
      rw [hh, Bool.false_or] at h0
      obtain ⟨l, hl⟩ := look_isSome hj
      have := List.all_eq_true.1 h0 _ hl
      simp only at this
      rw [hp, hfl] at this
      simp only [hlp, Bool.not_true, Bool.false_or, Bool.or_eq_true] at this
      exact this.resolve_right fun h => dstIn_false h t hd ht
    · intro he
      have hh : hard fl i o = false := by simp [hard, he]
      rw [hh, he] at h7
      simp only [Bool.false_eq_true, if_false, Bool.and_eq_true] at h7
      refine ⟨?_, Option.isSome_iff_exists.1 h7.2⟩
      cases q <;> first | rfl | (simp [Qt.isNo] at h7)
    · intro he hh
      rw [hh, he] at h7
      simp only [Bool.false_eq_true, if_false, if_true, Bool.and_eq_true] at h7
      refine ⟨?_, Option.isSome_iff_exists.1 h7.2⟩
      have h8 := h7.1
      rw [Bool.or_eq_true, Bool.and_eq_true, Bool.and_eq_true, Bool.and_eq_true] at h8
      rcases h8 with ⟨h9, h10⟩ | ⟨⟨h9, h10⟩, h11⟩
      · exact .inl ⟨by cases q <;> first | rfl | (simp [Qt.isQuiet] at h9), h10⟩
      · exact .inr ⟨by cases q <;> first | rfl | (simp [Qt.isFlo] at h9), h10, by simpa using h11⟩
    · intro he
      rw [he] at h7
      simp only [if_true] at h7
      cases q with
      | quiet => exact .inl (.inl rfl)
      | still => exact .inl (.inr rfl)
      | frz t => simp at h7
      | flo => simp at h7
      | no =>
        refine .inr (.inr fun j p hj hp => ?_)
        obtain ⟨l, hl⟩ := look_isSome hj
        have := List.all_eq_true.1 h7 _ hl
        simp only at this
        rw [hp] at this
        simp only [Bool.or_eq_true] at this
        exact this.imp (fun h => by simpa using h) id
      | soft ld l =>
        refine .inr (.inl ⟨ld, l, rfl, fun j p hj hp => ?_⟩)
        obtain ⟨m, hl⟩ := look_isSome hj
        have := List.all_eq_true.1 h7 _ hl
        simp only at this
        rw [hp] at this
        simp only [Bool.or_eq_true, Bool.and_eq_true] at this
        rcases this with (h | h) | ⟨⟨h, h'⟩, h''⟩
        · exact .inl (by simpa using h)
        · exact .inr (.inl h)
        · refine .inr (.inr ⟨h.imp (fun h => by simpa using h) fun h t ht => by simpa using List.all_eq_true.1 h t ht, fun t ht => by simpa using List.all_eq_true.1 h' t ht, ?_⟩)
          cases hd : p.dst with
          | none => rw [hd] at h''; simp [dstIn] at h''
          | some d => rw [hd] at h''; exact ⟨d, rfl, by simpa [dstIn] using h''⟩
    · intro hia j hj hja
      obtain ⟨l, hl⟩ := look_isSome hj
      rw [hia, Bool.false_or] at ha1
      have := List.all_eq_true.1 ha1 _ hl
      simp only at this
      rw [hja] at this
      simpa using this
    · intro hia
      rw [hia] at ha2
      simp only [Bool.not_true, Bool.false_or, Bool.and_eq_true, Bool.not_eq_true'] at ha2
      refine ⟨ha2.1.1.1, ?_, Option.isSome_iff_exists.1 ha2.1.2, ha2.2⟩
      have := ha2.1.1.2
      cases q <;> first | rfl | (simp [Qt.isStill] at this)
    · intro hh
      rw [hh] at ha3
      simp only [Bool.not_true, Bool.false_or, Bool.or_eq_true] at ha3
      refine ha3.imp (fun h => ?_) fun h s hs => by simpa using List.all_eq_true.1 h s hs
      cases q <;> first | rfl | (simp [Qt.isStill] at h)
theorem planOK_all : ∀ {ρ : List (Qt × Nat)} {seen : List (Nat × List Nat)} {last : Option Nat}, planOK ops fl al ρ seen last = true → ∀ i, i < ops.size → (look i seen).isSome = true ∨ ∃ q, (q, i) ∈ ρ
  | [], seen, last, h, i, hi => by
    simp only [planOK] at h
    exact .inl (List.all_eq_true.1 h i (List.mem_range.2 hi))
  | (q, j) :: r, seen, last, h, i, hi => by
    obtain ⟨o, ho, hh⟩ := planOK_head h
    rcases planOK_all hh.tail i hi with h1 | ⟨q', h1⟩
    · rw [look_cons] at h1
      split at h1
      · rename_i e; subst e; exact .inr ⟨q, List.mem_cons_self⟩
      · exact .inl h1
    · exact .inr ⟨q', List.mem_cons_of_mem _ h1⟩
theorem planOK_later (hc : Closed ops L) : ∀ {ρ : List (Qt × Nat)} {seen : List (Nat × List Nat)} {e : Nat}, planOK ops fl al ρ seen (some e) = true → Tab ops seen → ∀ q i o, (q, i) ∈ ρ → ops[i]? = some o → al.contains i = false → (∀ d ∈ deps o, L d) → L e
  | [], _, _, _, _, q, i, o, hm, _, _, _ => by simp at hm
  | (q', i') :: r, seen, e, h, ht, q, i, o, hm, ho, hal, hd => by
    obtain ⟨o', ho', hh⟩ := planOK_head h
    rcases List.mem_cons.1 hm with h1 | h1
    · obtain ⟨rfl, rfl⟩ := Prod.mk.inj h1
      obtain rfl : o = o' := by rw [ho] at ho'; exact Option.some.inj ho'
      exact anc_in ht hc hd e ((hh.chain e rfl).resolve_left (by rw [hal]; simp))
    · have h2 := hh.tail
      cases he : (hard fl i' o' && !al.contains i') with
      | false =>
        rw [he] at h2
        exact planOK_later hc h2 (ht.cons ho') q i o h1 ho hal hd
      | true =>
        rw [he] at h2
        have := planOK_later hc h2 (ht.cons ho') q i o h1 ho hal hd
        rw [Bool.and_eq_true, Bool.not_eq_true'] at he
        exact anc_in ht hc (hc i' o' this ho') e ((hh.chain e rfl).resolve_left (by rw [he.2]; simp))
theorem look_tail {i j : Nat} {l : List Nat} {seen : List (Nat × List Nat)} (h : (look j seen).isSome = true) : (look j ((i, l) :: seen)).isSome = true := by
  rw [look_cons]
  split
  · rfl
  · exact h
theorem planOK_behind (hc : Closed ops L) {e : Nat} (hal : al.contains e = true) : ∀ {ρ : List (Qt × Nat)} {seen : List (Nat × List Nat)} {last : Option Nat}, planOK ops fl al ρ seen last = true → Tab ops seen → (look e seen).isSome = true → ∀ q i o, (q, i) ∈ ρ → ops[i]? = some o → al.contains i = false → (∀ d ∈ deps o, L d) → L e
  | [], _, _, _, _, _, q, i, o, hm, _, _, _ => by simp at hm
  | (q', i') :: r, seen, last, h, ht, hs, q, i, o, hm, ho, hia, hd => by
    obtain ⟨o', ho', hh⟩ := planOK_head h
    rcases List.mem_cons.1 hm with h1 | h1
    · obtain ⟨rfl, rfl⟩ := Prod.mk.inj h1
      obtain rfl : o = o' := by rw [ho] at ho'; exact Option.some.inj ho'
      exact anc_in ht hc hd e (hh.allocs hia e hs hal)
    · exact planOK_behind hc hal hh.tail (ht.cons ho') (look_tail hs) q i o h1 ho hia hd
theorem planOK_early : ∀ {ρ : List (Qt × Nat)} {seen : List (Nat × List Nat)} {last : Option Nat}, planOK ops fl al ρ seen last = true → ∀ q e, (q, e) ∈ ρ → al.contains e = true → ∃ o, ops[e]? = some o ∧ isAlloc o = true ∧ (∃ d, o.dst = some d) ∧ fl.contains e = false ∧ look e seen = none ∧ ∀ j, (look j seen).isSome = true → ∃ p, ops[j]? = some p ∧ ∀ t, o.dst = some t → t ∉ p.looksAt ops ∧ p.dst ≠ some t
  | [], _, _, _, q, e, hm, _ => by simp at hm
  | (q', i') :: r, seen, last, h, q, e, hm, hal => by
    obtain ⟨o', ho', hh⟩ := planOK_head h
    rcases List.mem_cons.1 hm with h1 | h1
    · obtain ⟨rfl, rfl⟩ := Prod.mk.inj h1
      obtain ⟨h2, _, h3, h4⟩ := hh.alloc hal
      exact ⟨o', ho', h2, h3, h4, hh.new, hh.war.resolve_left fun h5 => by rw [hal] at h5; simp at h5⟩
    · obtain ⟨o, h2, h3, h4, h5, h6, h7⟩ := planOK_early hh.tail q e h1 hal
      refine ⟨o, h2, h3, h4, h5, ?_, fun j hj => h7 j (look_tail hj)⟩
      rw [look_cons] at h6
      split at h6
      · simp at h6
      · exact h6
theorem Head.cov {q : Qt} {i : Nat} {r : List (Qt × Nat)} {seen : List (Nat × List Nat)} {last : Option Nat} {o : Oper} (h : Head ops fl al q i r seen last o) (ht : Tab ops seen) : Cov ops fl al o :=
  fun _ hc hd j q t hj hne hq hm => anc_in ht hc hd j (h.reads j q t hj hne hq hm)
def Stable (E : Env) (Φ : Phi) (ops : Array Oper) (V : St) (o : Oper) : Prop :=
  ∃ d, o.dst = some d ∧ isCallV o.op = false ∧ ((wanted ops.toList o V = some true ∧ ∃ n v ids, evFree E Φ V.box n V.val o.op = some (v, ids) ∧ V.get d = v) ∨ (wanted ops.toList o V = some false ∧ V.get d = .tup []))
theorem wanted_congr {V V' : St} {o : Oper} (h : ∀ t ∈ o.looksAt ops, V'.get t = V.get t) : wanted ops.toList o V' = wanted ops.toList o V := by
  unfold wanted
  split
  · rfl
  · rename_i j b hg
    split
    · rename_i d hd
      have : d ∈ o.looksAt ops := by
        unfold Oper.looksAt
        rw [hg]
        refine List.mem_append_right _ ?_
        simp only [Array.getElem?_toList] at hd
        simp [hd]
      rw [h d this]
    · rfl
theorem looks_tmps {o : Oper} {t : Nat} (h : t ∈ tmpsOf o.op) : t ∈ o.looksAt ops := List.mem_append_left _ h
theorem Stable.mono {V V' : St} {o : Oper} {dst : Option Nat} (h : Stable E Φ ops V o) (hq : Quiet V V' dst) (hd : ∀ t, dst = some t → t ∉ o.looksAt ops ∧ o.dst ≠ some t) : Stable E Φ ops V' o := by
  obtain ⟨d, h1, h2, h3⟩ := h
  have hg : ∀ t ∈ o.looksAt ops, V'.get t = V.get t := fun t ht => hq.1 t fun e => (hd t e).1 ht
  have hgd : V'.get d = V.get d := hq.1 d fun e => (hd d e).2 h1
  refine ⟨d, h1, h2, ?_⟩
  rw [wanted_congr hg, hgd]
  refine h3.imp (fun ⟨h4, n, v, ids, h5, h6⟩ => ⟨h4, n, v, ids, ?_, h6⟩) id
  exact evFree_congr h2 (fun _ _ _ id _ cs _ hb => hq.2 id cs hb) (val_congr fun t ht => hg t (looks_tmps ht)) h5
theorem Stable.soft {V V' : St} {o : Oper} {dst : Option Nat} {ld l : List Nat} (h : Stable E Φ ops V o) (hq : Soft V V' dst ld l) (hld : isLoad o.op = false ∨ ∀ t ∈ o.looksAt ops, t ∈ ld) (hl : ∀ t ∈ o.looksAt ops, t ∈ l) (hdl : ∃ d, o.dst = some d ∧ d ∈ l) (hd : ∀ t, dst = some t → t ∉ o.looksAt ops ∧ o.dst ≠ some t) : Stable E Φ ops V' o := by
  obtain ⟨d, h1, h2, h3⟩ := h
  obtain ⟨d', hd1, hd2⟩ := hdl
  obtain rfl : d = d' := by rw [h1] at hd1; exact Option.some.inj hd1
  have hg : ∀ t ∈ o.looksAt ops, V'.get t = V.get t := fun t ht => hq.1 t (hl t ht) fun e => (hd t e).1 ht
  have hgd : V'.get d = V.get d := hq.1 d hd2 fun e => (hd d e).2 h1
  refine ⟨d, h1, h2, ?_⟩
  rw [wanted_congr hg, hgd]
  refine h3.imp (fun ⟨h4, n, v, ids, h5, h6⟩ => ⟨h4, n, v, ids, ?_, h6⟩) id
  refine evFree_congr h2 (fun t p hop id off cs hv hb => ?_) (val_congr fun t ht => hg t (looks_tmps ht)) h5
  have hlt := hld.resolve_left fun e => by rw [hop] at e; simp [isLoad] at e
  cases p with
  | tmp s => exact hq.2 s (hlt s (looks_tmps (by rw [hop]; simp [tmpsOf, Op.operands]))) id off cs hv hb
  | const c =>
    simp only [St.val] at hv
    cases hc : ofConst c with
    | none => rw [hc] at hv; simp at hv
    | some y =>
      rw [hc] at hv
      simp only [Option.getD_some] at hv
      subst hv
      unfold ofConst at hc
      split at hc
      · obtain ⟨_, _, h9⟩ := Option.map_eq_some_iff.1 hc
        simp at h9
      · unfold ofCell at hc
        split at hc <;> simp at hc
  | global _ => simp [St.val] at hv
  | func _ => simp [St.val] at hv
end
end Go.Proofs.Ytggkeechdakccaa.Flat
/-
Literals that have been run by the plan and not by the machine: the state without them.
-/
namespace Go.Proofs.Ytggkeechdakccaa.Flat
section
variable {E : Env} {Φ : Phi} {o : Oper} {st st' : St} {nid : Nat} {p : Nat → Prop} {dst : Option Nat}
open Classical in
noncomputable def St.drop (p : Nat → Prop) (st : St) : St := { st with sl := st.sl.filter fun q => decide (¬ p q.1) }
theorem look_filter {α : Type} {p : Nat → Bool} {i : Nat} : ∀ {l : List (Nat × α)}, look i (l.filter fun q => p q.1) = if p i = true then look i l else none
  | [] => by simp [look]
  | (j, x) :: r => by
    rw [List.filter_cons]
    split
    · rename_i hj
      rw [look_cons, look_cons, look_filter]
      by_cases h : i = j
      · subst h; simp at hj; simp [hj]
      · rw [if_neg h, if_neg h]
    · rename_i hj
      rw [look_filter, look_cons]
      by_cases h : i = j
      · subst h; simp at hj; simp [hj]
      · rw [if_neg h]
theorem get_drop {t : Nat} (h : ¬ p t) : (st.drop p).get t = st.get t := by
  classical
  unfold St.get St.drop
  simp only
  rw [look_filter (p := fun i => decide (¬ p i)), if_pos (by simpa using h)]
theorem get_drop_in {t : Nat} (h : p t) : (st.drop p).get t = .undef := by
  classical
  unfold St.get St.drop
  simp only
  rw [look_filter (p := fun i => decide (¬ p i)), if_neg (by simpa using h)]
  rfl
theorem box_drop : (st.drop p).box = st.box := rfl
theorem nt_drop : (st.drop p).nt = st.nt := rfl
theorem tree_drop : (st.drop p).tree = st.tree := rfl
theorem val_drop {x : Operand} (h : ∀ t, x = .tmp t → ¬ p t) : (st.drop p).val x = st.val x := by
  cases x with
  | tmp t => exact get_drop (h t rfl)
  | _ => rfl
theorem put_drop {v : AV} (h : ∀ t, dst = some t → ¬ p t) : (st.drop p).put dst v = (st.put dst v).map (St.drop p) := by
  classical
  cases dst with
  | none => rfl
  | some d =>
    by_cases hd : d < st.nt
    · have h1 : st.put (some d) v = some { st with sl := (d, v) :: st.sl } := if_pos hd
      have h2 : (st.drop p).put (some d) v = some { (st.drop p) with sl := (d, v) :: (st.drop p).sl } := if_pos hd
      rw [h1, h2]
      simp only [Option.map_some, Option.some.injEq]
      unfold St.drop
      simp only [List.filter_cons]
      rw [if_pos (decide_eq_true (h d rfl))]
    · have h1 : st.put (some d) v = none := if_neg hd
      have h2 : (st.drop p).put (some d) v = none := if_neg hd
      rw [h1, h2]; rfl
theorem mapO_drop {f : Nat → Bool → Nat → Nat → List AV → AV} {g : Nat → Nat → AV} {h : Bool → Nat → Bool → Nat → Nat → List AV → Nat → Nat → AV} : (st.drop p).mapO f g h = (st.mapO f g h).drop p := by
  classical
  unfold St.mapO St.drop
  simp only [List.filter_map]
  rfl
theorem freeze_drop {ids : List Nat} : (st.drop p).freeze ids = (st.freeze ids).drop p := by
  unfold St.freeze
  split
  · rfl
  · exact mapO_drop
theorem scrub_drop {ids : List Nat} : (st.drop p).scrub ids = (st.scrub ids).drop p := by
  unfold St.scrub
  split
  · rfl
  · exact mapO_drop
theorem laid_drop {ids : List Nat} : (st.drop p).laid ids = (st.laid ids).drop p := by
  unfold St.laid
  rw [tree_drop]
  split
  · exact scrub_drop
  · exact freeze_drop
theorem setRow_drop {id : Nat} {xs : List AV} : (st.drop p).setRow id xs = (st.setRow id xs).drop p := mapO_drop
theorem back_drop {g : List Nat} {ps : List (Nat × AV)} : (st.drop p).back nid g ps = (st.back nid g ps).drop p := mapO_drop
theorem setBox_drop {id : Nat} {cs : List AV} : (st.drop p).setBox id cs = (st.setBox id cs).drop p := rfl
theorem setBoxes_drop : ∀ {k : Nat} {ids : List Nat} {css : List (List AV)} {s : St}, setBoxes nid k ids css (s.drop p) = (setBoxes nid k ids css s).drop p
  | k, id :: ids, cs :: css, s => by simp only [setBoxes]; rw [setBox_drop, setBoxes_drop]
  | k, [], cs :: css, s => by simp only [setBoxes]; rw [setBox_drop, setBoxes_drop]
  | _, [], [], _ => rfl
  | _, _ :: _, [], _ => rfl
theorem bind_drop {α : Type} {x : Option α} {f g : α → Option St} (h : ∀ a, f a = (g a).map (St.drop p)) : x.bind f = (x.bind g).map (St.drop p) := by
  cases x with
  | none => rfl
  | some a => exact h a
theorem ite_drop {c : Prop} [Decidable c] {x y x' y' : Option St} (hx : x = x'.map (St.drop p)) (hy : y = y'.map (St.drop p)) : (if c then x else y) = (if c then x' else y').map (St.drop p) := by
  split
  · exact hx
  · exact hy
theorem none_drop : (none : Option St) = (none : Option St).map (St.drop p) := rfl
theorem evAlloc_drop {P : Program} {t : Nat} (h : ∀ t, dst = some t → ¬ p t) : evAlloc P t nid dst (st.drop p) = (evAlloc P t nid dst st).map (St.drop p) := by
  unfold evAlloc
  exact bind_drop fun _ => bind_drop fun _ => bind_drop fun _ => by rw [setBox_drop, put_drop h]
theorem evBox_drop {x : AV} (h : ∀ t, dst = some t → ¬ p t) : evBox nid dst x (st.drop p) = (evBox nid dst x st).map (St.drop p) := by
  unfold evBox
  exact ite_drop (by rw [setBox_drop, put_drop h]) none_drop
theorem evStore_drop {P : Program} {t : Nat} {q x : AV} (h : ∀ t, dst = some t → ¬ p t) : evStore P t q x dst (st.drop p) = (evStore P t q x dst st).map (St.drop p) := by
  unfold evStore
  refine bind_drop fun ti => ite_drop ?_ none_drop
  split
  · rw [box_drop]
    exact bind_drop fun _ => ite_drop (by rw [setBox_drop, put_drop h]) none_drop
  · refine bind_drop fun y => ?_
    simp only [tree_drop]
    exact ite_drop (by rw [laid_drop, setRow_drop, put_drop h]) none_drop
  · rfl
theorem evBuildSlice_drop {P : Program} {t len : Nat} {parts : List (Nat × AV)} (h : ∀ t, dst = some t → ¬ p t) : evBuildSlice P t len parts nid dst (st.drop p) = (evBuildSlice P t len parts nid dst st).map (St.drop p) := by
  unfold evBuildSlice
  simp only [tree_drop]
  exact ite_drop (bind_drop fun ti => bind_drop fun te => bind_drop fun xs => ite_drop (by rw [laid_drop, put_drop h]) none_drop) none_drop
theorem evMakeSlice_drop {P : Program} {t : Nat} {l c : AV} (h : ∀ t, dst = some t → ¬ p t) : evMakeSlice P t l c nid dst (st.drop p) = (evMakeSlice P t l c nid dst st).map (St.drop p) := by
  unfold evMakeSlice
  refine ite_drop (bind_drop fun ti => bind_drop fun te => bind_drop fun z => ?_) none_drop
  split
  · exact ite_drop (put_drop h) none_drop
  · rfl
theorem evAppend_drop {P : Program} {t u : Nat} {s x : AV} (h : ∀ t, dst = some t → ¬ p t) : evAppend P t u s x nid dst (st.drop p) = (evAppend P t u s x nid dst st).map (St.drop p) := by
  unfold evAppend
  simp only [tree_drop]
  refine ite_drop (bind_drop fun ti => bind_drop fun te => bind_drop fun ys => ite_drop ?_ none_drop) none_drop
  split
  · exact ite_drop (by rw [scrub_drop, put_drop h]) none_drop
  · exact ite_drop (by rw [scrub_drop, put_drop h]) none_drop
  · rfl
theorem evCutOwn_drop {P : Program} {t : Nat} {x : AV} {lo hi : Option AV} (h : ∀ t, dst = some t → ¬ p t) : evCutOwn P t x lo hi nid dst (st.drop p) = (evCutOwn P t x lo hi nid dst st).map (St.drop p) := by
  unfold evCutOwn
  refine ite_drop (bind_drop fun ti => bind_drop fun te => ?_) none_drop
  split
  · refine ite_drop ?_ none_drop
    split
    · exact ite_drop (by rw [scrub_drop, put_drop h]) none_drop
    · exact ite_drop (by rw [scrub_drop, put_drop h]) none_drop
    · exact ite_drop (by rw [scrub_drop, put_drop h]) none_drop
    · rfl
  · rfl
theorem evGive_drop {f : Nat} {args : List (Mode × AV)} (h : ∀ t, dst = some t → ¬ p t) : evGive Φ nid f args dst (st.drop p) = (evGive Φ nid f args dst st).map (St.drop p) := by
  unfold evGive
  simp only [box_drop]
  refine ite_drop (bind_drop fun r => ite_drop (ite_drop (ite_drop ?_ none_drop) (ite_drop ?_ none_drop)) none_drop) none_drop
  · rw [freeze_drop, back_drop, setBoxes_drop, put_drop h]
  · rw [freeze_drop, back_drop, put_drop h]
theorem evSub_drop {f id i k : Nat} {xs ros : List AV} (h : ∀ t, dst = some t → ¬ p t) : evSub Φ f id xs i k ros dst (st.drop p) = (evSub Φ f id xs i k ros dst st).map (St.drop p) := by
  unfold evSub
  refine bind_drop fun x => ?_
  split
  · refine bind_drop fun r => ?_
    simp only
    split
    · exact ite_drop (by rw [setRow_drop, put_drop h]) none_drop
    · rfl
  · rfl
theorem evCall_drop {md : List Mode} {n : Nat} {args caps : List AV} (h : ∀ t, dst = some t → ¬ p t) : evCall Φ md nid n args caps dst (st.drop p) = (evCall Φ md nid n args caps dst st).map (St.drop p) := by
  unfold evCall
  refine ite_drop ?_ ?_
  · rw [box_drop]
    exact bind_drop fun r => by obtain ⟨v, ids⟩ := r; simp only; rw [freeze_drop, put_drop h]
  · split
    · refine ite_drop ?_ none_drop
      split
      · exact ite_drop (evSub_drop h) none_drop
      · exact evGive_drop h
    · rfl
theorem mem_tmpsOf {op : Op} {t : Nat} (h : Operand.tmp t ∈ op.operands.toList) : t ∈ tmpsOf op := List.mem_filterMap.2 ⟨.tmp t, h, rfl⟩
theorem optAV_drop {lo : Option Operand} (h : ∀ x ∈ lo, (st.drop p).val x = st.val x) : optAV (st.drop p).val lo = optAV st.val lo := by
  cases lo with
  | none => rfl
  | some x => simp only [optAV]; rw [h x rfl]
theorem evOp0_drop (hl : ∀ t, p t → t ∉ tmpsOf o.op) (h : ∀ t, o.dst = some t → ¬ p t) (he : evOp0 E Φ nid o st = some st') : evOp0 E Φ nid o (st.drop p) = some (st'.drop p) := by
  have hv : ∀ x ∈ o.op.operands.toList, (st.drop p).val x = st.val x := fun x hx => val_drop fun t ht hp => hl t hp (mem_tmpsOf (ht ▸ hx))
  have key : ∀ {x : Option St}, evOp0 E Φ nid o (st.drop p) = x.map (St.drop p) → x = some st' → evOp0 E Φ nid o (st.drop p) = some (st'.drop p) := fun h1 h2 => by rw [h1, h2]; rfl
  have hfree : ∀ {r : AV × List Nat}, isCallV o.op = false → evFree E Φ st.box nid st.val o.op = some r → evFree E Φ (st.drop p).box nid (st.drop p).val o.op = some r := fun hc h1 =>
    evFree_congr hc (fun _ _ _ id _ cs _ hb => hb) hv h1
  unfold evOp0 at he
  split at he
  · rename_i t hop
    refine key ?_ he
    unfold evOp0; simp only [hop]
    exact evAlloc_drop h
  · rename_i t x hop
    refine key ?_ he
    unfold evOp0; simp only [hop]
    rw [hv x (by rw [hop]; simp [Op.operands])]
    exact evBox_drop h
  · rename_i t q x hop
    refine key ?_ he
    unfold evOp0; simp only [hop]
    rw [hv x (by rw [hop]; simp [Op.operands]), hv q (by rw [hop]; simp [Op.operands])]
    exact evStore_drop h
  · rename_i t len ps hop
    refine key ?_ he
    unfold evOp0; simp only [hop]
    have : (ps.toList.map fun q => (q.1, (st.drop p).val q.2)) = ps.toList.map fun q => (q.1, st.val q.2) := List.map_congr_left fun q hq => by
      rw [hv q.2 (by rw [hop]; simp only [Op.operands]; simp; exact ⟨q.1, by simpa using hq⟩)]
    rw [this]
    exact evBuildSlice_drop h
  · rename_i t l c hop
    refine key ?_ he
    unfold evOp0; simp only [hop]
    rw [hv l (by rw [hop]; simp [Op.operands]), hv c (by rw [hop]; simp [Op.operands])]
    exact evMakeSlice_drop h
  · rename_i t x lo hi hop
    have hx := hv x (by rw [hop]; simp [Op.operands])
    split at he
    · rename_i id fz e sz xs hval
      refine key ?_ he
      unfold evOp0; simp only [hop]
      rw [hx, hval]
      simp only
      rw [optAV_drop (lo := lo) fun y hy => hv y (by rw [hop]; simp at hy; subst hy; simp [Op.operands]), optAV_drop (lo := hi) fun y hy => hv y (by rw [hop]; simp at hy; subst hy; simp [Op.operands])]
      exact evCutOwn_drop h
    · rename_i hn
      obtain ⟨⟨v, ids⟩, h1, h2⟩ := Option.bind_eq_some_iff.1 he
      have h3 := hfree (by rw [hop]; rfl) h1
      unfold evOp0; simp only [hop]
      rw [hx]
      split
      · rename_i id fz e sz xs hval
        exact absurd hval (hn _ _ _ _ _)
      · rw [hop] at h3
        rw [h3]
        simp only [Option.bind_some]
        simp only at h2
        rw [put_drop h, h2]; rfl
  · rename_i as ts hop
    refine key ?_ he
    unfold evOp0; simp only [hop]
    have hargs : ∀ x ∈ as.toList, (st.drop p).val x = st.val x := fun x hx => hv x (by rw [hop]; simp only [Op.operands, Call.operands]; simpa using hx)
    split
    · rename_i s x t u h1 h2
      rw [hargs s (by rw [h1]; simp), hargs x (by rw [h1]; simp)]
      exact evAppend_drop h
    · rfl
  · rename_i f as ats hop
    refine key ?_ he
    unfold evOp0; simp only [hop]
    have hargs : as.toList.map (st.drop p).val = as.toList.map st.val := List.map_congr_left fun x hx => hv x (by rw [hop]; simp only [Op.operands, Call.operands]; simp; exact .inr (by simpa using hx))
    rw [hv f (by rw [hop]; simp [Op.operands, Call.operands]), hargs]
    split
    · exact evCall_drop h
    · rfl
  · rename_i h1 h2 h3 h4 h5 h6 h7 h8
    obtain ⟨⟨v, ids⟩, h9, h10⟩ := Option.bind_eq_some_iff.1 he
    have hc : isCallV o.op = false := by
      unfold isCallV
      split
      · rename_i hop; exact absurd hop (h8 _ _ _)
      · rfl
    have h11 := hfree hc h9
    unfold evOp0
    split
    · rename_i hop; exact absurd hop (h1 _)
    · rename_i hop; exact absurd hop (h2 _ _)
    · rename_i hop; exact absurd hop (h3 _ _ _)
    · rename_i hop; exact absurd hop (h4 _ _ _)
    · rename_i hop; exact absurd hop (h5 _ _ _)
    · rename_i hop; exact absurd hop (h6 _ _ _ _)
    · rename_i hop; exact absurd hop (h7 _ _)
    · rename_i hop; exact absurd hop (h8 _ _ _)
    · rw [h11]
      simp only [Option.bind_some]
      simp only at h10
      rw [put_drop h, h10]; rfl
end
end Go.Proofs.Ytggkeechdakccaa.Flat
/-
Literals: what they come to.
-/
namespace Go.Proofs.Ytggkeechdakccaa.Flat
section
variable {E : Env} {Φ : Phi} {o : Oper} {st st' : St} {nid : Nat} {dst : Option Nat}
def Tr (b : Bool) (x : Option St) : Prop := ∀ s, x = some s → s.tree = b
theorem tr_none {b : Bool} : Tr b none := fun _ h => by simp at h
theorem tr_put {b : Bool} {s : St} {d : Option Nat} {v : AV} (h : s.tree = b) : Tr b (s.put d v) := fun s' hs => by
  unfold St.put at hs
  cases d with
  | none => obtain rfl := Option.some.inj hs; exact h
  | some d =>
    simp only at hs
    split at hs
    · obtain rfl := Option.some.inj hs; exact h
    · simp at hs
theorem tr_bind {α : Type} {b : Bool} {x : Option α} {f : α → Option St} (h : ∀ a, Tr b (f a)) : Tr b (x.bind f) := fun s hs => by
  obtain ⟨a, _, h2⟩ := Option.bind_eq_some_iff.1 hs
  exact h a s h2
theorem tr_ite {b : Bool} {c : Prop} [Decidable c] {x y : Option St} (hx : Tr b x) (hy : Tr b y) : Tr b (if c then x else y) := by
  split
  · exact hx
  · exact hy
theorem tree_scrub {ids : List Nat} : (st.scrub ids).tree = st.tree := by unfold St.scrub; split <;> rfl
theorem tree_freeze {ids : List Nat} : (st.freeze ids).tree = st.tree := by unfold St.freeze; split <;> rfl
theorem tree_laid {ids : List Nat} : (st.laid ids).tree = st.tree := by
  unfold St.laid
  split
  · exact tree_scrub
  · exact tree_freeze
theorem tree_setBoxes : ∀ {k : Nat} {ids : List Nat} {css : List (List AV)} {s : St}, (setBoxes nid k ids css s).tree = s.tree
  | k, id :: ids, cs :: css, s => by simp only [setBoxes]; rw [tree_setBoxes]; rfl
  | k, [], cs :: css, s => by simp only [setBoxes]; rw [tree_setBoxes]; rfl
  | _, [], [], _ => rfl
  | _, _ :: _, [], _ => rfl
theorem evOp0_tr : Tr st.tree (evOp0 E Φ nid o st) := by
  unfold evOp0
  split
  · unfold evAlloc
    exact tr_bind fun _ => tr_bind fun _ => tr_bind fun _ => tr_put rfl
  · unfold evBox
    exact tr_ite (tr_put rfl) tr_none
  · unfold evStore
    refine tr_bind fun ti => tr_ite ?_ tr_none
    split
    · exact tr_bind fun _ => tr_ite (tr_put rfl) tr_none
    · refine tr_bind fun y => tr_ite (tr_put ?_) tr_none
      exact tree_laid
    · exact tr_none
  · unfold evBuildSlice
    exact tr_ite (tr_bind fun ti => tr_bind fun te => tr_bind fun xs => tr_ite (tr_put tree_laid) tr_none) tr_none
  · unfold evMakeSlice
    refine tr_ite (tr_bind fun ti => tr_bind fun te => tr_bind fun z => ?_) tr_none
    split
    · exact tr_ite (tr_put rfl) tr_none
    · exact tr_none
  · split
    · unfold evCutOwn
      refine tr_ite (tr_bind fun ti => tr_bind fun te => ?_) tr_none
      split
      · refine tr_ite ?_ tr_none
        split
        · exact tr_ite (tr_put tree_scrub) tr_none
        · exact tr_ite (tr_put tree_scrub) tr_none
        · exact tr_ite (tr_put tree_scrub) tr_none
        · exact tr_none
      · exact tr_none
    · exact tr_bind fun _ => tr_put rfl
  · split
    · unfold evAppend
      refine tr_ite (tr_bind fun ti => tr_bind fun te => tr_bind fun ys => tr_ite ?_ tr_none) tr_none
      split
      · exact tr_ite (tr_put tree_scrub) tr_none
      · exact tr_ite (tr_put tree_scrub) tr_none
      · exact tr_none
    · exact tr_none
  · split
    · unfold evCall
      refine tr_ite (tr_bind fun _ => tr_put tree_freeze) ?_
      split
      · refine tr_ite ?_ tr_none
        split
        · refine tr_ite ?_ tr_none
          unfold evSub
          refine tr_bind fun x => ?_
          split
          · refine tr_bind fun r => ?_
            simp only
            split
            · exact tr_ite (tr_put rfl) tr_none
            · exact tr_none
          · exact tr_none
        · unfold evGive
          refine tr_ite (tr_bind fun r => tr_ite (tr_ite (tr_ite (tr_put ?_) tr_none) (tr_ite (tr_put ?_) tr_none)) tr_none) tr_none
          · rw [tree_setBoxes]; exact tree_freeze
          · exact tree_freeze
      · exact tr_none
    · exact tr_none
  · exact tr_bind fun _ => tr_put rfl
theorem evOp0_tree (h : evOp0 E Φ nid o st = some st') : st'.tree = st.tree := evOp0_tr st' h
theorem put_tree {v : AV} (h : st.put dst v = some st') : st'.tree = st.tree := tr_put rfl st' h
def litV (P : Program) (n : Nat) (tree : Bool) (val : Operand → AV) : Op → Option AV
  | .buildSlice t len ps => if (ps.toList.flatMap fun p => (val p.2).rows) = [] then
      (if isSliceT P t then (tiOf P t).bind fun ti => (tiOf P ti.elem).bind fun te => (elemsOf tree te.agg te.size 0 (ps.toList.map fun p => (p.1, val p.2))).bind fun xs =>
        if (ps.toList.map fun p => (p.1, val p.2)).length = len ∧ len * te.size ≤ 16777216 ∧ 0 < te.size ∧ zeroOK te ∧ (tree = false ∨ nodupB ((ps.toList.map fun p => (p.1, val p.2)).flatMap fun p => p.2.rows) = true) then some (.own n false ti.elem te.size xs) else none
      else none) else none
  | .makeSlice t l c => if isSliceT P t then (tiOf P t).bind fun ti => (tiOf P ti.elem).bind fun te => (zeroElem te).bind fun z =>
      match val l, val c with
      | .int _ n', .int _ m => if n' = m ∧ 0 ≤ n' ∧ te.bytes * n'.toNat ≤ 281474976710656 ∧ n'.toNat ≤ 9223372036854775807 ∧ 0 < te.size then some (.own n false ti.elem te.size (List.replicate n'.toNat z)) else none
      | _, _ => none
    else none
  | _ => none
theorem laid_nil : St.laid [] st = st := by unfold St.laid; split <;> rfl
theorem ite_bind {c : Prop} [Decidable c] {x : Option AV} {f : AV → Option St} : (if c then x else none).bind f = if c then x.bind f else none := by split <;> rfl
theorem lit_op (hl : isLit o = true) : evOpQ E Φ nid o st = (litV E.P nid st.tree st.val o.op).bind fun v => st.put o.dst v := by
  unfold isLit at hl
  rw [Bool.and_eq_true] at hl
  have hl := hl.2
  split at hl
  · rename_i t len ps hop
    unfold evOpQ
    simp only [hop, litV, ite_bind]
    split
    · rename_i hr
      unfold evBuildSlice
      have hr' : ((ps.toList.map fun p => (p.1, st.val p.2)).flatMap fun p => p.2.rows) = [] := by rw [List.flatMap_map]; exact hr
      simp only [hr', laid_nil]
      split
      · simp only [Option.bind_assoc]
        congr 1; funext ti; congr 1; funext te; congr 1; funext xs
        split <;> rfl
      · rfl
    · rfl
  · rename_i t l c hop
    unfold evOpQ
    simp only [hop, litV, ite_bind]
    unfold evMakeSlice
    split
    · simp only [Option.bind_assoc]
      congr 1; funext ti; congr 1; funext te; congr 1; funext z
      cases st.val l <;> cases st.val c <;> first | rfl | (simp only; split <;> rfl)
    · rfl
  · simp at hl
theorem lit_congr {P : Program} {n : Nat} {tree : Bool} {val val' : Operand → AV} {op : Op} (hv : ∀ x ∈ op.operands.toList, val' x = val x) : litV P n tree val' op = litV P n tree val op := by
  unfold litV
  split
  · rename_i t len ps
    have h1 : ∀ q ∈ ps.toList, val' q.2 = val q.2 := fun q hq => hv q.2 (by simp only [Op.operands]; simp; exact ⟨q.1, by simpa using hq⟩)
    have h2 : (ps.toList.map fun p => (p.1, val' p.2)) = ps.toList.map fun p => (p.1, val p.2) := List.map_congr_left fun q hq => by rw [h1 q hq]
    have h3 : (ps.toList.flatMap fun p => (val' p.2).rows) = ps.toList.flatMap fun p => (val p.2).rows := by
      rw [List.flatMap_def, List.flatMap_def]
      congr 1
      exact List.map_congr_left fun q hq => by rw [h1 q hq]
    rw [h2, h3]
  · rename_i t l c
    rw [hv l (by simp [Op.operands]), hv c (by simp [Op.operands])]
  · rfl
theorem lit_guard (hl : isLit o = true) : o.guard = none := by
  unfold isLit at hl
  rw [Bool.and_eq_true] at hl
  simpa using hl.1
theorem lit_eff (hl : isLit o = true) : isEff o.op = true := by
  unfold isLit at hl
  rw [Bool.and_eq_true] at hl
  have hl := hl.2
  split at hl
  · rename_i hop; rw [hop]; rfl
  · rename_i hop; rw [hop]; rfl
  · simp at hl
theorem wanted_free {all : List Oper} (h : o.guard = none) : wanted all o st = some true := by unfold wanted; rw [h]
section
variable {ops : Array Oper}
def Floats (E : Env) (Φ : Phi) (ops : Array Oper) (V : St) (o : Oper) (n : Nat) : Prop :=
  ∃ d v, o.dst = some d ∧ o.guard = none ∧ (∀ st s : St, st.tree = V.tree → (∀ x ∈ o.op.operands.toList, st.val x = V.val x) → st.put o.dst v = some s → evOp0 E Φ n o st = some s) ∧ V.get d = v ∧ d < V.nt
theorem Floats.mono {V V' : St} {n : Nat} (h : Floats E Φ ops V o n) (ht : V'.tree = V.tree) (hn : V'.nt = V.nt) (hq : ∀ t ∈ o.looksAt ops, V'.get t = V.get t) (hd : ∀ d, o.dst = some d → V'.get d = V.get d) : Floats E Φ ops V' o n := by
  obtain ⟨d, v, h1, h2, h3, h4, h5⟩ := h
  exact ⟨d, v, h1, h2, fun st s e1 e2 => h3 st s (e1.trans ht) fun x hx => (e2 x hx).trans (val_congr (fun t ht => hq t (looks_tmps ht)) x hx), (hd d h1).trans h4, by rw [hn]; exact h5⟩
theorem lit_floats {V V' : St} {n d : Nat} {v : AV} (hlit : isLit o = true) (hv : litV E.P n V.tree V.val o.op = some v) (hd : o.dst = some d) (ht : V'.tree = V.tree) (hq : ∀ t ∈ o.looksAt ops, V'.get t = V.get t) (hg : V'.get d = v) (hlt : d < V'.nt) : Floats E Φ ops V' o n := by
  refine ⟨d, v, hd, lit_guard hlit, fun st s e1 e2 e3 => evOpQ_op ?_, hg, hlt⟩
  rw [lit_op hlit, e1, ht, lit_congr (val := V.val) (fun x hx => (e2 x hx).trans (val_congr (fun t ht => hq t (looks_tmps ht)) x hx)), hv]
  exact e3
theorem scal_lend {bx bx' : Nat → Option (List AV)} {n : Nat} {v : AV} (h : isScal v = true) : lend bx (n + 1) v = lend bx' (n + 1) v := by
  cases v <;> first | rfl | simp [isScal] at h
theorem scal_import {n m : Nat} {v : AV} (h : isScal (import_ n v) = true) : import_ n v = import_ m v ∧ noref v = true ∧ small v = true := by
  cases v <;> first | exact ⟨rfl, rfl, rfl⟩ | simp [import_, AV.mapO, isScal] at h
theorem call_ev {val : Operand → AV} {v : AV} (h : callV E Φ val o.op = some v) {n : Nat} {st s : St} (hv : ∀ x ∈ o.op.operands.toList, st.val x = val x) (hp : st.put o.dst v = some s) : evOp0 E Φ n o st = some s ∧ isScal v = true := by
  unfold callV at h
  split at h
  · rename_i f as ats hop
    have hargs : as.toList.map st.val = as.toList.map val := List.map_congr_left fun x hx => hv x (by rw [hop]; simp only [Op.operands, Call.operands]; simp; exact .inr (by simpa using hx))
    have hf := hv f (by rw [hop]; simp [Op.operands, Call.operands])
    split at h
    · rename_i g caps hvf
      split at h
      · rename_i hc
        obtain ⟨r, h1, h2⟩ := Option.bind_eq_some_iff.1 h
        split at h2
        · rename_i hr
          obtain rfl := Option.some.inj h2
          refine ⟨?_, hr⟩
          unfold evOp0
          simp only [hop]
          rw [hf, hvf, hargs]
          simp only
          unfold evCall
          rw [if_pos hc.1]
          have e1 : evRo Φ st.box n g (as.toList.map val ++ caps) = some (r.1, []) := by
            unfold evRo at h1 ⊢
            have e2 : (as.toList.map val ++ caps).map (lend st.box 4) = (as.toList.map val ++ caps).map (lend (fun _ => none) 4) := List.map_congr_left fun x hx => scal_lend (List.all_eq_true.1 hc.2 x hx)
            rw [e2]
            obtain ⟨⟨ret, ios⟩, h3, h4⟩ := Option.bind_eq_some_iff.1 h1
            rw [h3]
            simp only [Option.bind_some] at h4 ⊢
            cases ios with
            | cons _ _ => simp at h4
            | nil =>
              simp only at h4 ⊢
              split at h4
              · rename_i hsm
                rw [if_pos hsm]
                split at h4
                · rename_i hn
                  rw [if_pos hn]
                  obtain rfl := Option.some.inj h4
                  rw [(scal_import (n := 0) (m := n) hr).1]
                · rename_i hn
                  split at h4
                  · simp at h4
                  · obtain rfl := Option.some.inj h4
                    exact absurd (scal_import (n := 0) (m := 0) hr).2.1 hn
              · simp at h4
          rw [e1]
          have e5 : st.freeze [] = st := rfl
          simp only [Option.bind_some, e5]
          exact hp
        · simp at h2
      · simp at h
    · simp at h
  · simp at h
theorem call_guard (h : isCallG o = true) : o.guard = none := by
  unfold isCallG at h
  rw [Bool.and_eq_true] at h
  simpa using h.1
theorem call_eff (h : isCallG o = true) : isEff o.op = true := by
  unfold isCallG at h
  rw [Bool.and_eq_true] at h
  have h2 := h.2
  split at h2
  · rename_i hop; rw [hop]; rfl
  · simp at h2
end
end
end Go.Proofs.Ytggkeechdakccaa.Flat
/-
Variables that the machine has made ahead of the plan: the state with them.
-/
namespace Go.Proofs.Ytggkeechdakccaa.Flat
section
variable {E : Env} {Φ : Phi} {o : Oper} {st st' : St} {nid : Nat} {xb : List (Nat × AV) × List (Nat × List AV)} {dst : Option Nat}
def St.ext (xb : List (Nat × AV) × List (Nat × List AV)) (st : St) : St := { st with sl := st.sl ++ xb.1, bx := st.bx ++ xb.2 }
def Bare (xb : List (Nat × AV) × List (Nat × List AV)) : Prop := (∀ q ∈ xb.1, ∃ id off, q.2 = .ptr id off) ∧ ∀ q ∈ xb.2, AV.rowss q.2 = []
def Ex (xb : List (Nat × AV) × List (Nat × List AV)) (x y : Option St) : Prop := ∀ s, y = some s → x = some (s.ext xb)
theorem look_append {α : Type} {i : Nat} {m : List (Nat × α)} : ∀ {l : List (Nat × α)} {x : α}, look i l = some x → look i (l ++ m) = some x
  | [], _, h => by simp [look] at h
  | (j, y) :: r, x, h => by
    rw [List.cons_append, look_cons]
    rw [look_cons] at h
    split
    · rename_i e; rw [if_pos e] at h; exact h
    · rename_i e; rw [if_neg e] at h; exact look_append h
theorem look_append_ne {α : Type} {i : Nat} {m : List (Nat × α)} (hm : ∀ q ∈ m, q.1 ≠ i) : ∀ {l : List (Nat × α)}, look i (l ++ m) = look i l
  | [] => by
    induction m with
    | nil => rfl
    | cons q r ih =>
      obtain ⟨j, y⟩ := q
      rw [List.nil_append, look_cons, if_neg (fun e => hm (j, y) List.mem_cons_self e.symm)]
      rw [List.nil_append] at ih
      exact ih fun q hq => hm q (List.mem_cons_of_mem _ hq)
  | (j, y) :: r => by
    rw [List.cons_append, look_cons, look_cons, look_append_ne hm]
theorem get_ext {t : Nat} (h : ∀ q ∈ xb.1, q.1 ≠ t) : (st.ext xb).get t = st.get t := by
  unfold St.get St.ext
  simp only
  rw [look_append_ne h]
theorem val_ext {x : Operand} (h : ∀ t, x = .tmp t → ∀ q ∈ xb.1, q.1 ≠ t) : (st.ext xb).val x = st.val x := by
  cases x with
  | tmp t => exact get_ext (h t rfl)
  | _ => rfl
theorem box_ext {id : Nat} {cs : List AV} (h : st.box id = some cs) : (st.ext xb).box id = some cs := look_append h
theorem nt_ext : (st.ext xb).nt = st.nt := rfl
theorem tree_ext : (st.ext xb).tree = st.tree := rfl
theorem put_ext {v : AV} : Ex xb ((st.ext xb).put dst v) (st.put dst v) := by
  intro s h
  cases dst with
  | none => obtain rfl := Option.some.inj h; rfl
  | some d =>
    by_cases hd : d < st.nt
    · have h1 : st.put (some d) v = some { st with sl := (d, v) :: st.sl } := if_pos hd
      have h2 : (st.ext xb).put (some d) v = some { (st.ext xb) with sl := (d, v) :: (st.ext xb).sl } := if_pos hd
      rw [h1] at h
      obtain rfl := Option.some.inj h
      rw [h2]; rfl
    · have h1 : st.put (some d) v = none := if_neg hd
      rw [h1] at h; simp at h
theorem mapO_bare {f : Nat → Bool → Nat → Nat → List AV → AV} {h : Bool → Nat → Bool → Nat → Nat → List AV → Nat → Nat → AV} (hx : Bare xb) : (st.ext xb).mapO f .ptr h = (st.mapO f .ptr h).ext xb := by
  have h1 : xb.1.map (fun p => (p.1, p.2.mapO f .ptr h (fun _ => .nils))) = xb.1 := (List.map_congr_left fun q hq => by
    show (q.1, _) = q
    obtain ⟨id, off, he⟩ := hx.1 q hq
    rw [he]
    show (q.1, AV.ptr id off) = q
    rw [← he]).trans (List.map_id _)
  have h2 : xb.2.map (fun p => (p.1, AV.mapOs f .ptr h (fun _ => .nils) p.2)) = xb.2 := (List.map_congr_left fun q hq => by
    show (q.1, _) = q
    rw [mapOs_keep (S := fun _ => False) (fun _ _ _ _ _ hf => hf.elim) (fun _ _ _ _ _ _ _ _ hf => hf.elim) q.2 (by rw [hx.2 q hq]; simp)]).trans (List.map_id _)
  unfold St.mapO St.ext
  simp only [List.map_append, h1, h2]
theorem freeze_ext {ids : List Nat} (hx : Bare xb) : (st.ext xb).freeze ids = (st.freeze ids).ext xb := by
  unfold St.freeze
  split
  · rfl
  · exact mapO_bare hx
theorem scrub_ext {ids : List Nat} (hx : Bare xb) : (st.ext xb).scrub ids = (st.scrub ids).ext xb := by
  unfold St.scrub
  split
  · rfl
  · exact mapO_bare hx
theorem laid_ext {ids : List Nat} (hx : Bare xb) : (st.ext xb).laid ids = (st.laid ids).ext xb := by
  unfold St.laid
  rw [tree_ext]
  split
  · exact scrub_ext hx
  · exact freeze_ext hx
theorem setRow_ext {id : Nat} {xs : List AV} (hx : Bare xb) : (st.ext xb).setRow id xs = (st.setRow id xs).ext xb := mapO_bare hx
theorem back_ext {g : List Nat} {ps : List (Nat × AV)} (hx : Bare xb) : (st.ext xb).back nid g ps = (st.back nid g ps).ext xb := mapO_bare hx
theorem setBox_ext {id : Nat} {cs : List AV} : (st.ext xb).setBox id cs = (st.setBox id cs).ext xb := rfl
theorem setBoxes_ext : ∀ {k : Nat} {ids : List Nat} {css : List (List AV)} {s : St}, setBoxes nid k ids css (s.ext xb) = (setBoxes nid k ids css s).ext xb
  | k, id :: ids, cs :: css, s => by simp only [setBoxes]; rw [setBox_ext, setBoxes_ext]
  | k, [], cs :: css, s => by simp only [setBoxes]; rw [setBox_ext, setBoxes_ext]
  | _, [], [], _ => rfl
  | _, _ :: _, [], _ => rfl
theorem bind_ex {α : Type} {x x' : Option α} {f g : α → Option St} (hx : ∀ a, x = some a → x' = some a) (h : ∀ a, x = some a → Ex xb (f a) (g a)) : Ex xb (x'.bind f) (x.bind g) := fun s hs => by
  obtain ⟨a, h1, h2⟩ := Option.bind_eq_some_iff.1 hs
  rw [hx a h1]
  exact h a h1 s h2
theorem bind_ex1 {α : Type} {x : Option α} {f g : α → Option St} (h : ∀ a, Ex xb (f a) (g a)) : Ex xb (x.bind f) (x.bind g) := bind_ex (fun _ h => h) fun a _ => h a
theorem ite_ex {c : Prop} [Decidable c] {x y x' y' : Option St} (hx : c → Ex xb x x') (hy : Ex xb y y') : Ex xb (if c then x else y) (if c then x' else y') := by
  split
  · rename_i h; exact hx h
  · exact hy
theorem none_ex {x : Option St} : Ex xb x none := fun _ h => by simp at h
theorem evAlloc_ex {P : Program} {t : Nat} : Ex xb (evAlloc P t nid dst (st.ext xb)) (evAlloc P t nid dst st) := by
  unfold evAlloc
  exact bind_ex1 fun _ => bind_ex1 fun _ => bind_ex1 fun _ => by rw [setBox_ext]; exact put_ext
theorem evBox_ex {x : AV} : Ex xb (evBox nid dst x (st.ext xb)) (evBox nid dst x st) := by
  unfold evBox
  exact ite_ex (fun _ => by rw [setBox_ext]; exact put_ext) none_ex
theorem evStore_ex {P : Program} {t : Nat} {q x : AV} (hx : Bare xb) : Ex xb (evStore P t q x dst (st.ext xb)) (evStore P t q x dst st) := by
  unfold evStore
  refine bind_ex1 fun ti => ite_ex (fun _ => ?_) none_ex
  split
  · refine bind_ex (fun _ h => box_ext h) fun _ _ => ite_ex (fun _ => by rw [setBox_ext]; exact put_ext) none_ex
  · refine bind_ex1 fun y => ?_
    simp only [tree_ext]
    exact ite_ex (fun _ => by rw [laid_ext hx, setRow_ext hx]; exact put_ext) none_ex
  · exact none_ex
theorem evBuildSlice_ex {P : Program} {t len : Nat} {parts : List (Nat × AV)} (hx : Bare xb) : Ex xb (evBuildSlice P t len parts nid dst (st.ext xb)) (evBuildSlice P t len parts nid dst st) := by
  unfold evBuildSlice
  simp only [tree_ext]
  exact ite_ex (fun _ => bind_ex1 fun ti => bind_ex1 fun te => bind_ex1 fun xs => ite_ex (fun _ => by rw [laid_ext hx]; exact put_ext) none_ex) none_ex
theorem evMakeSlice_ex {P : Program} {t : Nat} {l c : AV} : Ex xb (evMakeSlice P t l c nid dst (st.ext xb)) (evMakeSlice P t l c nid dst st) := by
  unfold evMakeSlice
  refine ite_ex (fun _ => bind_ex1 fun ti => bind_ex1 fun te => bind_ex1 fun z => ?_) none_ex
  split
  · exact ite_ex (fun _ => put_ext) none_ex
  · exact none_ex
theorem evAppend_ex {P : Program} {t u : Nat} {s x : AV} (hx : Bare xb) : Ex xb (evAppend P t u s x nid dst (st.ext xb)) (evAppend P t u s x nid dst st) := by
  unfold evAppend
  simp only [tree_ext]
  refine ite_ex (fun _ => bind_ex1 fun ti => bind_ex1 fun te => bind_ex1 fun ys => ite_ex (fun _ => ?_) none_ex) none_ex
  split
  · exact ite_ex (fun _ => by rw [scrub_ext hx]; exact put_ext) none_ex
  · exact ite_ex (fun _ => by rw [scrub_ext hx]; exact put_ext) none_ex
  · exact none_ex
theorem evCutOwn_ex {P : Program} {t : Nat} {x : AV} {lo hi : Option AV} (hx : Bare xb) : Ex xb (evCutOwn P t x lo hi nid dst (st.ext xb)) (evCutOwn P t x lo hi nid dst st) := by
  unfold evCutOwn
  refine ite_ex (fun _ => bind_ex1 fun ti => bind_ex1 fun te => ?_) none_ex
  split
  · refine ite_ex (fun _ => ?_) none_ex
    split
    · exact ite_ex (fun _ => by rw [scrub_ext hx]; exact put_ext) none_ex
    · exact ite_ex (fun _ => by rw [scrub_ext hx]; exact put_ext) none_ex
    · exact ite_ex (fun _ => by rw [scrub_ext hx]; exact put_ext) none_ex
    · exact none_ex
  · exact none_ex
mutual
theorem mapO_noptr {f : Nat → Bool → Nat → Nat → List AV → AV} {g g' : Nat → Nat → AV} {h : Bool → Nat → Bool → Nat → Nat → List AV → Nat → Nat → AV} {z : Unit → AV} : ∀ v : AV, v.any isPtr = false → v.mapO f g h z = v.mapO f g' h z
  | .own _ _ _ _ _, _ => rfl
  | .eptr _ _ _ _ _ _ _ _, _ => rfl
  | .agg cs, hp => by
    simp only [AV.mapO]
    rw [mapOs_noptr cs (by simp only [AV.any, Bool.or_eq_false_iff] at hp; exact hp.2)]
  | .tup cs, hp => by
    simp only [AV.mapO]
    rw [mapOs_noptr cs (by simp only [AV.any, Bool.or_eq_false_iff] at hp; exact hp.2)]
  | .clo n cs, hp => by
    simp only [AV.mapO]
    rw [mapOs_noptr cs (by simp only [AV.any, Bool.or_eq_false_iff] at hp; exact hp.2)]
  | .ptr _ _, hp => by simp [AV.any, isPtr] at hp
  | .undef, _ => rfl
  | .int _ _, _ => rfl
  | .bool _, _ => rfl
  | .str _, _ => rfl
  | .nils, _ => rfl
  | .sl _ _, _ => rfl
  | .cptr _, _ => rfl
  | .tr _ _ _, _ => rfl
  | .gone, _ => rfl
theorem mapOs_noptr {f : Nat → Bool → Nat → Nat → List AV → AV} {g g' : Nat → Nat → AV} {h : Bool → Nat → Bool → Nat → Nat → List AV → Nat → Nat → AV} {z : Unit → AV} : ∀ vs : List AV, AV.anys isPtr vs = false → AV.mapOs f g h z vs = AV.mapOs f g' h z vs
  | [], _ => rfl
  | v :: vs, hp => by
    simp only [AV.anys, Bool.or_eq_false_iff] at hp
    simp only [AV.mapOs]
    rw [mapO_noptr v hp.1, mapOs_noptr vs hp.2]
end
theorem lend_noptr {bx bx' : Nat → Option (List AV)} {n : Nat} {v : AV} (h : v.any isPtr = false) : lend bx n v = lend bx' n v := by
  cases n with
  | zero => rfl
  | succ n => exact mapO_noptr v h
theorem evRo_noptr {bx bx' : Nat → Option (List AV)} {f : Nat} {args : List AV} (h : (args.any (·.any isPtr)) = false) : evRo Φ bx nid f args = evRo Φ bx' nid f args := by
  unfold evRo
  rw [List.map_congr_left fun v hv => lend_noptr (bx := bx) (bx' := bx') (n := 4) (v := v) (by
    rw [List.any_eq_false] at h
    simpa using h v hv)]
theorem giveRows_congr {bx bx' : Nat → Option (List AV)} : ∀ {args : List (Mode × AV)}, (∀ id ∈ ioBoxes args, bx' id = bx id) → giveRows bx' args = giveRows bx args
  | [], _ => rfl
  | (.give, v) :: r, h => by simp only [giveRows]; rw [giveRows_congr (args := r) h]
  | (.mut, v) :: r, h => by simp only [giveRows]; rw [giveRows_congr (args := r) h]
  | (.ro, v) :: r, h => by simp only [giveRows]; rw [giveRows_congr (args := r) h]
  | (.io, v) :: r, h => by
    cases v with
    | ptr id off =>
      simp only [giveRows]
      rw [h id (by simp [ioBoxes]), giveRows_congr (args := r) fun id hid => h id (by simp only [ioBoxes]; exact List.mem_cons_of_mem _ hid)]
    | _ => exact giveRows_congr (args := r) h
theorem mem_roArgs {v : AV} : ∀ {args : List (Mode × AV)}, (Mode.ro, v) ∈ args → v ∈ roArgs args
  | (.ro, w) :: r, h => by
    rcases List.mem_cons.1 h with e | h
    · obtain rfl := (Prod.mk.inj e).2; exact List.mem_cons_self
    · exact List.mem_cons_of_mem _ (mem_roArgs h)
  | (.give, w) :: r, h => mem_roArgs (args := r) ((List.mem_cons.1 h).resolve_left fun e => by simp at e)
  | (.mut, w) :: r, h => mem_roArgs (args := r) ((List.mem_cons.1 h).resolve_left fun e => by simp at e)
  | (.io, w) :: r, h => mem_roArgs (args := r) ((List.mem_cons.1 h).resolve_left fun e => by simp at e)
theorem handArg_congr {bx bx' : Nat → Option (List AV)} {g hs : List Nat} {q : Mode × AV} (h : q.1 = .ro → q.2.any isPtr = false) : handArg bx' g hs q = handArg bx g hs q := by
  obtain ⟨m, v⟩ := q
  cases m
  · exact lend_noptr (h rfl)
  · rfl
  · rfl
  · cases v with
    | ptr id off => cases off <;> rfl
    | _ => rfl
theorem evGive_ex {f : Nat} {args : List (Mode × AV)} (hx : Bare xb) : Ex xb (evGive Φ nid f args dst (st.ext xb)) (evGive Φ nid f args dst st) := by
  intro s hs
  unfold evGive at hs ⊢
  simp only at hs ⊢
  split at hs
  · rename_i hc
    have hio : ∀ id ∈ ioBoxes args, (st.box id).isSome = true := List.all_eq_true.1 hc.2.2.2.2.2
    have hb : ∀ id ∈ ioBoxes args, (st.ext xb).box id = st.box id := fun id hid => by
      obtain ⟨cs, hcs⟩ := Option.isSome_iff_exists.1 (hio id hid)
      rw [hcs]; exact box_ext hcs
    have hg : giveRows (st.ext xb).box args = giveRows st.box args := giveRows_congr hb
    have hro : ∀ v ∈ roArgs args, v.any isPtr = false := fun v hv => by
      have := List.all_eq_true.1 hc.2.2.2.2.1 v hv
      simp only [Bool.and_eq_true, Bool.not_eq_true'] at this
      exact this.1
    have hh : args.map (handArg (st.ext xb).box (giveRows st.box args) (ioBoxes args)) = args.map (handArg st.box (giveRows st.box args) (ioBoxes args)) := List.map_congr_left fun q hq => handArg_congr fun hm => hro _ (mem_roArgs (by rw [← hm]; exact hq))
    have hf : ((ioBoxes args).map fun id => (((st.ext xb).box id).getD []).map (rename (giveRows st.box args))) = (ioBoxes args).map fun id => ((st.box id).getD []).map (rename (giveRows st.box args)) := List.map_congr_left fun id hid => by rw [hb id hid]
    have ha : ((ioBoxes args).all fun id => ((st.ext xb).box id).isSome) = true := List.all_eq_true.2 fun id hid => by rw [hb id hid]; exact hio id hid
    rw [hg, hh, hf, if_pos ⟨hc.1, hc.2.1, hc.2.2.1, hc.2.2.2.1, hc.2.2.2.2.1, ha⟩]
    refine bind_ex1 (fun r => ?_) s hs
    refine ite_ex (fun _ => ite_ex (fun _ => ite_ex (fun _ => ?_) none_ex) (ite_ex (fun _ => ?_) none_ex)) none_ex
    · rw [freeze_ext hx, back_ext hx, setBoxes_ext]; exact put_ext
    · rw [freeze_ext hx, back_ext hx]; exact put_ext
  · simp at hs
theorem evSub_ex {f id i k : Nat} {xs ros : List AV} (hx : Bare xb) : Ex xb (evSub Φ f id xs i k ros dst (st.ext xb)) (evSub Φ f id xs i k ros dst st) := by
  unfold evSub
  refine bind_ex1 fun x => ?_
  split
  · refine bind_ex1 fun r => ?_
    simp only
    split
    · exact ite_ex (fun _ => by rw [setRow_ext hx]; exact put_ext) none_ex
    · exact none_ex
  · exact none_ex
theorem evCall_ex {md : List Mode} {n : Nat} {args caps : List AV} (hx : Bare xb) (hp : md.all (· == .ro) = true → ((args ++ caps).any (·.any isPtr)) = false) : Ex xb (evCall Φ md nid n args caps dst (st.ext xb)) (evCall Φ md nid n args caps dst st) := by
  unfold evCall
  by_cases hm : md.all (· == .ro) = true
  · rw [if_pos hm, if_pos hm, evRo_noptr (bx := (st.ext xb).box) (bx' := st.box) (hp hm)]
    exact bind_ex1 fun r => by obtain ⟨v, ids⟩ := r; simp only; rw [freeze_ext hx]; exact put_ext
  · rw [if_neg hm, if_neg hm]
    split
    · refine ite_ex (fun _ => ?_) none_ex
      split
      · exact ite_ex (fun _ => evSub_ex hx) none_ex
      · exact evGive_ex hx
    · exact none_ex
def StillOp (E : Env) (o : Oper) (st : St) : Prop := ∀ f as ts, o.op = .call { callee := .value f, args := as, argTypes := ts } → ∀ n caps, st.val f = .clo n caps → (E.md n).all (· == .ro) = true → ((as.toList.map st.val ++ caps).any (·.any isPtr)) = false
theorem optAV_ext {lo : Option Operand} (h : ∀ x ∈ lo, (st.ext xb).val x = st.val x) : optAV (st.ext xb).val lo = optAV st.val lo := by
  cases lo with
  | none => rfl
  | some x => simp only [optAV]; rw [h x rfl]
theorem evOp0_ex (hx : Bare xb) (hp : StillOp E o st) (hl : ∀ t ∈ tmpsOf o.op, ∀ q ∈ xb.1, q.1 ≠ t) : Ex xb (evOp0 E Φ nid o (st.ext xb)) (evOp0 E Φ nid o st) := by
  have hv : ∀ x ∈ o.op.operands.toList, (st.ext xb).val x = st.val x := fun x hx => val_ext fun t ht => hl t (mem_tmpsOf (ht ▸ hx))
  have hfree : ∀ {r : AV × List Nat}, isCallV o.op = false → evFree E Φ st.box nid st.val o.op = some r → evFree E Φ (st.ext xb).box nid (st.ext xb).val o.op = some r := fun hc h1 =>
    evFree_congr hc (fun _ _ _ id _ cs _ hb => box_ext hb) hv h1
  intro s he
  unfold evOp0 at he
  split at he
  · rename_i t hop
    unfold evOp0; simp only [hop]
    exact evAlloc_ex s he
  · rename_i t x hop
    unfold evOp0; simp only [hop]
    rw [hv x (by rw [hop]; simp [Op.operands])]
    exact evBox_ex s he
  · rename_i t q x hop
    unfold evOp0; simp only [hop]
    rw [hv x (by rw [hop]; simp [Op.operands]), hv q (by rw [hop]; simp [Op.operands])]
    exact evStore_ex hx s he
  · rename_i t len ps hop
    unfold evOp0; simp only [hop]
    have : (ps.toList.map fun q => (q.1, (st.ext xb).val q.2)) = ps.toList.map fun q => (q.1, st.val q.2) := List.map_congr_left fun q hq => by
      rw [hv q.2 (by rw [hop]; simp only [Op.operands]; simp; exact ⟨q.1, by simpa using hq⟩)]
    rw [this]
    exact evBuildSlice_ex hx s he
  · rename_i t l c hop
    unfold evOp0; simp only [hop]
    rw [hv l (by rw [hop]; simp [Op.operands]), hv c (by rw [hop]; simp [Op.operands])]
    exact evMakeSlice_ex s he
  · rename_i t x lo hi hop
    have hxx := hv x (by rw [hop]; simp [Op.operands])
    split at he
    · rename_i id fz e sz xs hval
      unfold evOp0; simp only [hop]
      rw [hxx, hval]
      simp only
      rw [optAV_ext (lo := lo) fun y hy => hv y (by rw [hop]; simp at hy; subst hy; simp [Op.operands]), optAV_ext (lo := hi) fun y hy => hv y (by rw [hop]; simp at hy; subst hy; simp [Op.operands])]
      exact evCutOwn_ex hx s he
    · rename_i hn
      obtain ⟨⟨v, ids⟩, h1, h2⟩ := Option.bind_eq_some_iff.1 he
      have h3 := hfree (by rw [hop]; rfl) h1
      unfold evOp0; simp only [hop]
      rw [hxx]
      split
      · rename_i id fz e sz xs hval
        exact absurd hval (hn _ _ _ _ _)
      · rw [hop] at h3
        rw [h3]
        exact put_ext s h2
  · rename_i as ts hop
    unfold evOp0; simp only [hop]
    have hargs : ∀ x ∈ as.toList, (st.ext xb).val x = st.val x := fun x hx => hv x (by rw [hop]; simp only [Op.operands, Call.operands]; simpa using hx)
    split at he
    · rename_i s' x t u h1 h2
      rw [hargs s' (by rw [h1]; simp), hargs x (by rw [h1]; simp)]
      exact evAppend_ex hx s he
    · simp at he
  · rename_i f as ats hop
    unfold evOp0; simp only [hop]
    have hargs : as.toList.map (st.ext xb).val = as.toList.map st.val := List.map_congr_left fun x hx => hv x (by rw [hop]; simp only [Op.operands, Call.operands]; simp; exact .inr (by simpa using hx))
    rw [hv f (by rw [hop]; simp [Op.operands, Call.operands]), hargs]
    split at he
    · rename_i n caps hvf
      exact evCall_ex hx (fun hm => hp f as ats hop n caps hvf hm) s he
    · simp at he
  · rename_i h1 h2 h3 h4 h5 h6 h7 h8
    obtain ⟨⟨v, ids⟩, h9, h10⟩ := Option.bind_eq_some_iff.1 he
    have hc : isCallV o.op = false := by
      unfold isCallV
      split
      · rename_i hop; exact absurd hop (h8 _ _ _)
      · rfl
    have h11 := hfree hc h9
    unfold evOp0
    split
    · rename_i hop; exact absurd hop (h1 _)
    · rename_i hop; exact absurd hop (h2 _ _)
    · rename_i hop; exact absurd hop (h3 _ _ _)
    · rename_i hop; exact absurd hop (h4 _ _ _)
    · rename_i hop; exact absurd hop (h5 _ _ _)
    · rename_i hop; exact absurd hop (h6 _ _ _ _)
    · rename_i hop; exact absurd hop (h7 _ _)
    · rename_i hop; exact absurd hop (h8 _ _ _)
    · rw [h11]
      exact put_ext s h10
theorem box_put {d : Option Nat} {v : AV} {s s' : St} (h : s.put d v = some s') : s'.box = s.box := by
  unfold St.put at h
  cases d with
  | none => obtain rfl := Option.some.inj h; rfl
  | some d =>
    simp only at h
    split at h
    · obtain rfl := Option.some.inj h; rfl
    · simp at h
theorem setBox_ne {n id : Nat} {cs : List AV} (h : id ≠ n) : (st.setBox n cs).box id = st.box id := by
  unfold St.setBox St.box
  simp only
  rw [look_cons, if_neg h]
theorem evOpQ_box (h : evOpQ E Φ nid o st = some st') {id : Nat} (hne : id ≠ nid) : st'.box id = st.box id := by
  unfold evOpQ at h
  split at h
  · unfold evAlloc at h
    obtain ⟨ti, _, h⟩ := Option.bind_eq_some_iff.1 h
    obtain ⟨z, _, h⟩ := Option.bind_eq_some_iff.1 h
    obtain ⟨cs, _, h⟩ := Option.bind_eq_some_iff.1 h
    rw [box_put h, setBox_ne hne]
  · unfold evBox at h
    split at h
    · rw [box_put h, setBox_ne hne]
    · simp at h
  · split at h
    · rename_i hr
      unfold evBuildSlice at h
      split at h
      · obtain ⟨ti, _, h⟩ := Option.bind_eq_some_iff.1 h
        obtain ⟨te, _, h⟩ := Option.bind_eq_some_iff.1 h
        obtain ⟨xs, _, h⟩ := Option.bind_eq_some_iff.1 h
        split at h
        · rw [List.flatMap_map, hr] at h
          have e : St.laid [] st = st := by unfold St.laid; split <;> rfl
          rw [e] at h
          rw [box_put h]
        · simp at h
      · simp at h
    · simp at h
  · unfold evMakeSlice at h
    split at h
    · obtain ⟨ti, _, h⟩ := Option.bind_eq_some_iff.1 h
      obtain ⟨te, _, h⟩ := Option.bind_eq_some_iff.1 h
      obtain ⟨xs, _, h⟩ := Option.bind_eq_some_iff.1 h
      split at h
      · split at h
        · rw [box_put h]
        · simp at h
      · simp at h
    · simp at h
  · rw [box_put h]
  · split at h
    · split at h
      · split at h
        rotate_left
        · simp at h
        rename_i hsp
        unfold evAppend at h
        rw [hsp] at h
        split at h
        · obtain ⟨ti, _, h⟩ := Option.bind_eq_some_iff.1 h
          obtain ⟨te, _, h⟩ := Option.bind_eq_some_iff.1 h
          obtain ⟨ys, _, h⟩ := Option.bind_eq_some_iff.1 h
          split at h
          · simp only at h
            split at h
            · rw [box_put h]; rfl
            · simp at h
          · simp at h
        · simp at h
      · simp at h
    · simp at h
  · split at h
    · split at h
      · obtain ⟨⟨v, ids⟩, hv, hp⟩ := Option.bind_eq_some_iff.1 h
        simp only at hp
        cases ids with
        | nil => rw [box_put hp]
        | cons => simp at hp
      · simp at h
    · simp at h
  · simp at h
end
end Go.Proofs.Ytggkeechdakccaa.Flat
/-
Allocs that the machine may run ahead of their turn: what they come to, and their names.
-/
namespace Go.Proofs.Ytggkeechdakccaa.Flat
section
variable {E : Env} {Φ : Phi} {o : Oper} {st st' : St} {nid : Nat} {dst : Option Nat}
def Nt (b : Nat) (x : Option St) : Prop := ∀ s, x = some s → s.nt = b
theorem ntr_none {b : Nat} : Nt b none := fun _ h => by simp at h
theorem ntr_put {b : Nat} {s : St} {d : Option Nat} {v : AV} (h : s.nt = b) : Nt b (s.put d v) := fun s' hs => by
  unfold St.put at hs
  cases d with
  | none => obtain rfl := Option.some.inj hs; exact h
  | some d =>
    simp only at hs
    split at hs
    · obtain rfl := Option.some.inj hs; exact h
    · simp at hs
theorem ntr_bind {α : Type} {b : Nat} {x : Option α} {f : α → Option St} (h : ∀ a, Nt b (f a)) : Nt b (x.bind f) := fun s hs => by
  obtain ⟨a, _, h2⟩ := Option.bind_eq_some_iff.1 hs
  exact h a s h2
theorem ntr_ite {b : Nat} {c : Prop} [Decidable c] {x y : Option St} (hx : Nt b x) (hy : Nt b y) : Nt b (if c then x else y) := by
  split
  · exact hx
  · exact hy
theorem nts_scrub {ids : List Nat} : (st.scrub ids).nt = st.nt := by unfold St.scrub; split <;> rfl
theorem nts_freeze {ids : List Nat} : (st.freeze ids).nt = st.nt := by unfold St.freeze; split <;> rfl
theorem nts_laid {ids : List Nat} : (st.laid ids).nt = st.nt := by
  unfold St.laid
  split
  · exact nts_scrub
  · exact nts_freeze
theorem nts_setBoxes : ∀ {k : Nat} {ids : List Nat} {css : List (List AV)} {s : St}, (setBoxes nid k ids css s).nt = s.nt
  | k, id :: ids, cs :: css, s => by simp only [setBoxes]; rw [nts_setBoxes]; rfl
  | k, [], cs :: css, s => by simp only [setBoxes]; rw [nts_setBoxes]; rfl
  | _, [], [], _ => rfl
  | _, _ :: _, [], _ => rfl
theorem evOp0_ntr : Nt st.nt (evOp0 E Φ nid o st) := by
  unfold evOp0
  split
  · unfold evAlloc
    exact ntr_bind fun _ => ntr_bind fun _ => ntr_bind fun _ => ntr_put rfl
  · unfold evBox
    exact ntr_ite (ntr_put rfl) ntr_none
  · unfold evStore
    refine ntr_bind fun ti => ntr_ite ?_ ntr_none
    split
    · exact ntr_bind fun _ => ntr_ite (ntr_put rfl) ntr_none
    · refine ntr_bind fun y => ntr_ite (ntr_put ?_) ntr_none
      exact nts_laid
    · exact ntr_none
  · unfold evBuildSlice
    exact ntr_ite (ntr_bind fun ti => ntr_bind fun te => ntr_bind fun xs => ntr_ite (ntr_put nts_laid) ntr_none) ntr_none
  · unfold evMakeSlice
    refine ntr_ite (ntr_bind fun ti => ntr_bind fun te => ntr_bind fun z => ?_) ntr_none
    split
    · exact ntr_ite (ntr_put rfl) ntr_none
    · exact ntr_none
  · split
    · unfold evCutOwn
      refine ntr_ite (ntr_bind fun ti => ntr_bind fun te => ?_) ntr_none
      split
      · refine ntr_ite ?_ ntr_none
        split
        · exact ntr_ite (ntr_put nts_scrub) ntr_none
        · exact ntr_ite (ntr_put nts_scrub) ntr_none
        · exact ntr_ite (ntr_put nts_scrub) ntr_none
        · exact ntr_none
      · exact ntr_none
    · exact ntr_bind fun _ => ntr_put rfl
  · split
    · unfold evAppend
      refine ntr_ite (ntr_bind fun ti => ntr_bind fun te => ntr_bind fun ys => ntr_ite ?_ ntr_none) ntr_none
      split
      · exact ntr_ite (ntr_put nts_scrub) ntr_none
      · exact ntr_ite (ntr_put nts_scrub) ntr_none
      · exact ntr_none
    · exact ntr_none
  · split
    · unfold evCall
      refine ntr_ite (ntr_bind fun _ => ntr_put nts_freeze) ?_
      split
      · refine ntr_ite ?_ ntr_none
        split
        · refine ntr_ite ?_ ntr_none
          unfold evSub
          refine ntr_bind fun x => ?_
          split
          · refine ntr_bind fun r => ?_
            simp only
            split
            · exact ntr_ite (ntr_put rfl) ntr_none
            · exact ntr_none
          · exact ntr_none
        · unfold evGive
          refine ntr_ite (ntr_bind fun r => ntr_ite (ntr_ite (ntr_ite (ntr_put ?_) ntr_none) (ntr_ite (ntr_put ?_) ntr_none)) ntr_none) ntr_none
          · rw [nts_setBoxes]; exact nts_freeze
          · exact nts_freeze
      · exact ntr_none
    · exact ntr_none
  · exact ntr_bind fun _ => ntr_put rfl
theorem evOp0_nt (h : evOp0 E Φ nid o st = some st') : st'.nt = st.nt := evOp0_ntr st' h
def newCells (P : Program) (o : Oper) : Option (List AV) := match o.op with
  | .alloc t => (tiOf P t).bind fun ti => ti.zero.bind fun z => ofCells z.cells.toList
  | _ => none
theorem alloc_eff (h : isAlloc o = true) : isEff o.op = true := by
  unfold isAlloc at h
  rw [Bool.and_eq_true] at h
  have h2 := h.2
  split at h2
  · rename_i hop; rw [hop]; rfl
  · simp at h2
theorem alloc_guard (h : isAlloc o = true) : o.guard = none := by
  unfold isAlloc at h
  rw [Bool.and_eq_true] at h
  simpa using h.1
theorem alloc_op (h : isAlloc o = true) : ∃ t, o.op = .alloc t := by
  unfold isAlloc at h
  rw [Bool.and_eq_true] at h
  have h2 := h.2
  split at h2
  · rename_i t hop; exact ⟨t, hop⟩
  · simp at h2
theorem alloc_looks {ops : Array Oper} (h : isAlloc o = true) : o.looksAt ops = [] := by
  obtain ⟨t, ht⟩ := alloc_op h
  unfold Oper.looksAt
  rw [alloc_guard h, ht]
  rfl
theorem alloc_ev (h : isAlloc o = true) {cs : List AV} (hc : newCells E.P o = some cs) : evOp0 E Φ nid o st = (st.setBox nid cs).put o.dst (.ptr nid 0) := by
  obtain ⟨t, ht⟩ := alloc_op h
  unfold newCells at hc
  rw [ht] at hc
  simp only at hc
  obtain ⟨ti, h1, hc⟩ := Option.bind_eq_some_iff.1 hc
  obtain ⟨z, h2, hc⟩ := Option.bind_eq_some_iff.1 hc
  unfold evOp0
  simp only [ht]
  unfold evAlloc
  rw [h1, Option.bind_some, h2, Option.bind_some, hc]
  rfl
theorem alloc_cells (h : isAlloc o = true) (he : evOp0 E Φ nid o st = some st') : ∃ cs, newCells E.P o = some cs := by
  obtain ⟨t, ht⟩ := alloc_op h
  unfold evOp0 at he
  simp only [ht] at he
  unfold evAlloc at he
  obtain ⟨ti, h1, he⟩ := Option.bind_eq_some_iff.1 he
  obtain ⟨z, h2, he⟩ := Option.bind_eq_some_iff.1 he
  obtain ⟨cs, h3, he⟩ := Option.bind_eq_some_iff.1 he
  refine ⟨cs, ?_⟩
  unfold newCells
  rw [ht]
  simp only
  rw [h1, Option.bind_some, h2, Option.bind_some, h3]
theorem ofCell_rows {v : Value} {x : AV} (h : ofCell v = some x) : x.rows = [] := by
  unfold ofCell at h
  split at h <;> first | (obtain rfl := Option.some.inj h; rfl) | simp at h
theorem ofCells_rows : ∀ {vs : List Value} {cs : List AV}, ofCells vs = some cs → AV.rowss cs = []
  | [], cs, h => by obtain rfl : [] = cs := by simpa [ofCells] using h
                    rfl
  | v :: vs, cs, h => by
    simp only [ofCells] at h
    obtain ⟨a, ha, h⟩ := Option.bind_eq_some_iff.1 h
    obtain ⟨bs, hb, rfl⟩ := Option.map_eq_some_iff.1 h
    simp only [AV.rowss]
    rw [ofCell_rows ha, ofCells_rows hb]
    rfl
theorem newCells_rows {P : Program} {cs : List AV} (h : newCells P o = some cs) : AV.rowss cs = [] := by
  unfold newCells at h
  split at h
  · obtain ⟨ti, _, h⟩ := Option.bind_eq_some_iff.1 h
    obtain ⟨z, _, h⟩ := Option.bind_eq_some_iff.1 h
    exact ofCells_rows h
  · simp at h
theorem put_lt {v : AV} {d : Nat} (h : st.put (some d) v = some st') : d < st.nt := by
  unfold St.put at h
  simp only at h
  split at h
  · assumption
  · simp at h
theorem evOpT_Q (h : evOpT E Φ nid o st = some st') : stillB E o st = true ∧ evOpQ E Φ nid o st = some st' := by
  unfold evOpT at h
  split at h
  · rename_i h1; exact ⟨h1, h⟩
  · simp at h
theorem still_op (h : stillB E o st = true) : StillOp E o st := by
  intro f as ts hop n caps hv hm
  unfold stillB at h
  simp only [hop, hv] at h
  rw [hm] at h
  simpa using h
theorem step_op {q : Qt} (he : isEff o.op = true) (h : (match q with | .no => evOpP E Φ nid o st | .quiet => evOpQ E Φ nid o st | .still => evOpT E Φ nid o st | .soft ld l => evOpS E Φ nid o st ld l | .flo => evOpF E Φ o st | .frz _ => none) = some st') : evOp0 E Φ nid o st = some st' := by
  cases q with
  | quiet => exact evOpQ_op h
  | still => exact evOpQ_op (evOpT_Q h).2
  | no => simp only at h; rw [evOpP_eff he] at h; exact h
  | soft ld l => exact evOpS_op h
  | flo =>
    simp only [evOpF] at h
    obtain ⟨v, h1, h2⟩ := Option.bind_eq_some_iff.1 h
    exact (call_ev h1 (fun _ _ => rfl) h2).1
  | frz t => simp at h
theorem step_nt {q : Qt} (h : (match q with | .no => evOpP E Φ nid o st | .quiet => evOpQ E Φ nid o st | .still => evOpT E Φ nid o st | .soft ld l => evOpS E Φ nid o st ld l | .flo => evOpF E Φ o st | .frz _ => none) = some st') : st'.nt = st.nt := by
  cases he : isEff o.op with
  | true => exact evOp0_nt (step_op he h)
  | false =>
    cases q with
    | quiet => exact evOp0_nt (evOpQ_op h)
    | still => exact evOp0_nt (evOpQ_op (evOpT_Q h).2)
    | no =>
      simp only at h
      rw [evOp0_free he] at h
      obtain ⟨⟨v, ids⟩, _, h2⟩ := Option.bind_eq_some_iff.1 h
      exact ntr_put rfl _ h2
    | soft ld l => exact evOp0_nt (evOpS_op h)
    | flo =>
      simp only [evOpF] at h
      obtain ⟨v, h1, h2⟩ := Option.bind_eq_some_iff.1 h
      exact ntr_put rfl _ h2
    | frz t => simp at h
theorem evPlan_alloc {ops : List Oper} : ∀ {ρ : List (Qt × Nat)} {nid : Nat} {V : St}, evPlan E Φ ops ρ nid V = some st' → ∀ q i o, (q, i) ∈ ρ → ops[i]? = some o → isAlloc o = true → ∃ cs, newCells E.P o = some cs ∧ ∀ d, o.dst = some d → d < V.nt
  | [], _, _, _, q, i, o, hm, _, _ => by simp at hm
  | (q', i') :: r, nid, V, h, q, i, o, hm, ho, ha => by
    simp only [evPlan] at h
    obtain ⟨o', ho', h⟩ := Option.bind_eq_some_iff.1 h
    obtain ⟨t, hw, h⟩ := Option.bind_eq_some_iff.1 h
    rcases List.mem_cons.1 hm with e | hm
    · obtain ⟨rfl, rfl⟩ := Prod.mk.inj e
      obtain rfl : o = o' := by rw [ho] at ho'; exact Option.some.inj ho'
      rw [wanted_free (alloc_guard ha)] at hw
      obtain rfl := Option.some.inj hw
      simp only [if_true] at h
      obtain ⟨V', h1, h2⟩ := Option.bind_eq_some_iff.1 h
      have h3 := step_op (alloc_eff ha) h1
      obtain ⟨cs, hcs⟩ := alloc_cells ha h3
      rw [alloc_ev ha hcs] at h3
      exact ⟨cs, hcs, fun d hd => by rw [hd] at h3; have h5 := put_lt h3; exact h5⟩
    · cases t with
      | true =>
        simp only [if_true] at h
        obtain ⟨V', h1, h2⟩ := Option.bind_eq_some_iff.1 h
        obtain ⟨cs, h3, h4⟩ := evPlan_alloc h2 q i o hm ho ha
        exact ⟨cs, h3, fun d hd => by rw [← step_nt h1]; exact h4 d hd⟩
      | false =>
        simp only [Bool.false_eq_true, if_false] at h
        obtain ⟨V', h1, h2⟩ := Option.bind_eq_some_iff.1 h
        obtain ⟨cs, h3, h4⟩ := evPlan_alloc h2 q i o hm ho ha
        exact ⟨cs, h3, fun d hd => by rw [← ntr_put rfl _ h1]; exact h4 d hd⟩
def nameIn : List (Qt × Nat) → Nat → Nat → Nat
  | [], nid, _ => nid
  | (_, j) :: r, nid, i => if i = j then nid else nameIn r (nid + 8) i
theorem nameIn_ne {q : Qt} {i j nid : Nat} {r : List (Qt × Nat)} (h : j ≠ i) : nameIn ((q, i) :: r) nid j = nameIn r (nid + 8) j := if_neg h
theorem nameIn_head {q : Qt} {i nid : Nat} {r : List (Qt × Nat)} : nameIn ((q, i) :: r) nid i = nid := if_pos rfl
theorem nameIn_le : ∀ {ρ : List (Qt × Nat)} {nid i : Nat}, nid ≤ nameIn ρ nid i
  | [], nid, i => Nat.le_refl _
  | (q, j) :: r, nid, i => by
    simp only [nameIn]
    split
    · exact Nat.le_refl _
    · have := nameIn_le (ρ := r) (nid := nid + 8) (i := i); omega
theorem nameIn_apart : ∀ {ρ : List (Qt × Nat)} {nid i j : Nat}, (∃ q, (q, i) ∈ ρ) → (∃ q, (q, j) ∈ ρ) → i ≠ j → nameIn ρ nid i + 8 ≤ nameIn ρ nid j ∨ nameIn ρ nid j + 8 ≤ nameIn ρ nid i
  | [], nid, i, j, ⟨_, h⟩, _, _ => by simp at h
  | (q, k) :: r, nid, i, j, ⟨q1, h1⟩, ⟨q2, h2⟩, hne => by
    simp only [nameIn]
    by_cases hi : i = k
    · rw [if_pos hi, if_neg (fun e => hne (hi.trans e.symm))]
      have := nameIn_le (ρ := r) (nid := nid + 8) (i := j)
      exact .inl (by omega)
    · rw [if_neg hi]
      by_cases hj : j = k
      · rw [if_pos hj]
        have := nameIn_le (ρ := r) (nid := nid + 8) (i := i)
        exact .inr (by omega)
      · rw [if_neg hj]
        exact nameIn_apart ⟨q1, (List.mem_cons.1 h1).resolve_left fun e => hi (Prod.mk.inj e).2⟩ ⟨q2, (List.mem_cons.1 h2).resolve_left fun e => hj (Prod.mk.inj e).2⟩ hne
theorem planOK_two {ops : Array Oper} {fl al : List Nat} : ∀ {ρ : List (Qt × Nat)} {seen : List (Nat × List Nat)} {last : Option Nat}, planOK ops fl al ρ seen last = true → ∀ {i j : Nat} {p p' : Oper} {t : Nat}, (∃ q, (q, i) ∈ ρ) → (∃ q, (q, j) ∈ ρ) → i ≠ j → al.contains i = true → al.contains j = true → ops[i]? = some p → ops[j]? = some p' → p.dst = some t → p'.dst ≠ some t
  | [], _, _, _, _, _, _, _, _, ⟨_, h⟩, _, _, _, _, _, _, _ => by simp at h
  | (q, k) :: r, seen, last, h, i, j, p, p', t, ⟨q1, h1⟩, ⟨q2, h2⟩, hne, hi, hj, hp, hp', ht => by
    obtain ⟨o, ho, hh⟩ := planOK_head h
    by_cases hik : i = k
    · subst hik
      have h2' := (List.mem_cons.1 h2).resolve_left fun e => hne (Prod.mk.inj e).2.symm
      obtain ⟨o', ho', _, _, _, _, h5⟩ := planOK_early hh.tail q2 j h2' hj
      obtain rfl : p' = o' := by rw [hp'] at ho'; exact Option.some.inj ho'
      obtain ⟨p2, hp2, h6⟩ := h5 i (by rw [look_cons, if_pos rfl]; rfl)
      obtain rfl : p = p2 := by rw [hp] at hp2; exact Option.some.inj hp2
      exact fun e => (h6 t e).2 ht
    · have h1' := (List.mem_cons.1 h1).resolve_left fun e => hik (Prod.mk.inj e).2
      by_cases hjk : j = k
      · subst hjk
        obtain ⟨o', ho', _, _, _, _, h5⟩ := planOK_early hh.tail q1 i h1' hi
        obtain rfl : p = o' := by rw [hp] at ho'; exact Option.some.inj ho'
        obtain ⟨p2, hp2, h6⟩ := h5 j (by rw [look_cons, if_pos rfl]; rfl)
        obtain rfl : p' = p2 := by rw [hp'] at hp2; exact Option.some.inj hp2
        exact (h6 t ht).2
      · have h2' := (List.mem_cons.1 h2).resolve_left fun e => hjk (Prod.mk.inj e).2
        exact planOK_two hh.tail ⟨q1, h1'⟩ ⟨q2, h2'⟩ hne hi hj hp hp' ht
end
end Go.Proofs.Ytggkeechdakccaa.Flat
/-
A region whose order the machine may choose: all orders.
-/
namespace Go.Proofs.Ytggkeechdakccaa.Flat
section
variable {E : Env} {Φ : Phi} {ops : Array Oper} {st' : St} {X : Nat → Prop} {fl al : List Nat} {Ea : Nat → Prop} {xb : List (Nat × AV) × List (Nat × List AV)} {nm : Nat → Nat}
def Pend (ops : Array Oper) (fl : List Nat) (seen : List (Nat × List Nat)) (L : Nat → Prop) (t : Nat) : Prop :=
  ∃ i o, (look i seen).isSome = true ∧ ¬ L i ∧ fl.contains i = true ∧ ops[i]? = some o ∧ isLit o = true ∧ o.dst = some t
def FreeN (fl : List Nat) (seen : List (Nat × List Nat)) (L : Nat → Prop) (nm : Nat → Nat) (nid k : Nat) : Prop :=
  nid ≤ k ∨ ∃ i, (look i seen).isSome = true ∧ ¬ L i ∧ fl.contains i = true ∧ nm i ≤ k ∧ k < nm i + 8
def Slotted (ops : Array Oper) (Ea : Nat → Prop) (t : Nat) : Prop := ∃ i o, Ea i ∧ ops[i]? = some o ∧ o.dst = some t
def Named (ρ : List (Qt × Nat)) (nid : Nat) (Ea : Nat → Prop) (k : Nat) : Prop := ∃ i, Ea i ∧ nameIn ρ nid i ≤ k ∧ k < nameIn ρ nid i + 8
theorem named_cons {q : Qt} {i nid k : Nat} {r : List (Qt × Nat)} {Ea : Nat → Prop} (hi : ¬ Ea i) : Named ((q, i) :: r) nid Ea k ↔ Named r (nid + 8) Ea k := by
  constructor
  · rintro ⟨j, hj, h1⟩
    have hji : j ≠ i := fun e => hi (by rw [← e]; exact hj)
    rw [nameIn_ne hji] at h1
    exact ⟨j, hj, h1⟩
  · rintro ⟨j, hj, h1⟩
    have hji : j ≠ i := fun e => hi (by rw [← e]; exact hj)
    refine ⟨j, hj, ?_⟩
    rw [nameIn_ne hji]
    exact h1
theorem look_append_none {α : Type} {i : Nat} {m : List (Nat × α)} : ∀ {l : List (Nat × α)}, look i l = none → look i (l ++ m) = look i m
  | [], _ => rfl
  | (j, y) :: r, h => by
    rw [look_cons] at h
    rw [List.cons_append, look_cons]
    split at h
    · simp at h
    · rename_i e; rw [if_neg e]; exact look_append_none h
theorem view_in {V : St} {p : Nat → Prop} {xb : List (Nat × AV) × List (Nat × List AV)} {t : Nat} (h : p t) : ((V.drop p).ext xb).get t = (look t xb.1).getD .undef := by
  classical
  unfold St.get St.ext
  simp only
  rw [look_append_none]
  unfold St.drop
  simp only
  rw [look_filter (p := fun i => decide (¬ p i)), if_neg (by simpa using h)]
structure Vir [Kept] (E : Env) (Φ : Phi) (ops : Array Oper) (X : Nat → Prop) (st' : St) (N : Nat) (fl al : List Nat) (Ea : Nat → Prop) (xb : List (Nat × AV) × List (Nat × List AV)) (L : Nat → Prop) (a : Act) (w : World) (G : Gh)
    (ρ : List (Qt × Nat)) (seen : List (Nat × List Nat)) (last : Option Nat) (nid : Nat) (V : St) (b : Act) (nm : Nat → Nat) : Prop where
  plan : planOK ops fl al ρ seen last = true
  tab : Tab ops seen
  cov : ∀ i o, (look i seen).isSome = true → ops[i]? = some o → Cov ops fl al o
  topo : Topo ops seen
  Lin : ∀ i, L i → (look i seen).isSome = true
  eff : ∀ i o, (look i seen).isSome = true → ops[i]? = some o → hard fl i o = true → L i
  lastL : ∀ e, last = some e → L e
  closed : Closed ops L
  rel : Rel ((V.drop fun t => Pend ops fl seen L t ∨ Slotted ops Ea t).ext xb) b w G X (fun k => FreeN fl seen L nm nid k ∧ ¬ Named ρ nid Ea k)
  bare : Bare xb
  slots : ∀ q ∈ xb.1, Slotted ops Ea q.1
  early : ∀ i, Ea i → al.contains i = true ∧ (∃ q, (q, i) ∈ ρ) ∧ ∃ o d cs, ops[i]? = some o ∧ newCells E.P o = some cs ∧ o.dst = some d ∧ look d xb.1 = some (.ptr (nameIn ρ nid i) 0) ∧ look (nameIn ρ nid i) xb.2 = some cs ∧ V.box (nameIn ρ nid i) = none
  closedE : ∀ i o, Ea i → ops[i]? = some o → ∀ d ∈ deps o, L d ∨ Ea d
  ev : evPlan E Φ ops.toList ρ nid V = some st'
  count : nid + 8 * ρ.length = N
  defers : a.defers = b.defers
  size : a.tmps.size = b.tmps.size
  agree : ∀ t, (∀ i o, (look i seen).isSome = true → ¬ L i → ops[i]? = some o → o.dst ≠ some t) → a.tmps[t]? = b.tmps[t]?
  stab : ∀ i o, (look i seen).isSome = true → ¬ L i → ops[i]? = some o → fl.contains i = false → Stable E Φ ops V o
  flo : ∀ i o, (look i seen).isSome = true → ¬ L i → ops[i]? = some o → fl.contains i = true → Floats E Φ ops V o (nm i)
  nmlt : ∀ i, (look i seen).isSome = true → fl.contains i = true → nm i + 8 ≤ nid
  nmdis : ∀ i j, (look i seen).isSome = true → (look j seen).isSome = true → fl.contains i = true → fl.contains j = true → i ≠ j → nm i + 8 ≤ nm j ∨ nm j + 8 ≤ nm i
  lits : ∀ i o, fl.contains i = true → ops[i]? = some o → isEff o.op = true
def AtEff (ops : Array Oper) (fl : List Nat) (Ea : Nat → Prop) (ρ : List (Qt × Nat)) : Prop := ρ = [] ∨ ∃ q i r o, ρ = (q, i) :: r ∧ ops[i]? = some o ∧ hard fl i o = true ∧ ¬ Ea i
theorem put_nt {V V' : St} {dst : Option Nat} {v : AV} (h : V.put dst v = some V') : V'.nt = V.nt := by
  unfold St.put at h
  cases dst with
  | none => obtain rfl := Option.some.inj h; rfl
  | some d =>
    simp only at h
    split at h
    · obtain rfl := Option.some.inj h; rfl
    · simp at h
theorem put_box {V V' : St} {dst : Option Nat} {v : AV} (h : V.put dst v = some V') : V'.box = V.box := by
  unfold St.put at h
  cases dst with
  | none => obtain rfl := Option.some.inj h; rfl
  | some d =>
    simp only at h
    split at h
    · obtain rfl := Option.some.inj h; rfl
    · simp at h
theorem put_bx {V V' : St} {dst : Option Nat} {v : AV} (h : V.put dst v = some V') : V'.bx = V.bx := by
  unfold St.put at h
  cases dst with
  | none => obtain rfl := Option.some.inj h; rfl
  | some d =>
    simp only at h
    split at h
    · obtain rfl := Option.some.inj h; rfl
    · simp at h
theorem put_getElem? {a : Act} {d t : Nat} {v : Value} : (a.put (some d) v).tmps[t]? = if d = t then (if t < a.tmps.size then some v else none) else a.tmps[t]? := by
  simp only [Act.put]
  rw [Array.getElem?_setIfInBounds]
  split
  · rename_i e; subst e; rfl
  · rfl
theorem actPut_size {a : Act} {d : Option Nat} {v : Value} : (a.put d v).tmps.size = a.tmps.size := by cases d <;> simp [Act.put]
theorem actPut_defers {a : Act} {d : Option Nat} {v : Value} : (a.put d v).defers = a.defers := by cases d <;> rfl
theorem Rel.reput [Kept] {V : St} {b : Act} {w : World} {G : Gh} {F : Nat → Prop} (h : Rel V b w G X F) {d : Nat} {v : Value} (hv : RV w G (V.get d) v) : Rel V (b.put (some d) v) w G X F :=
  ⟨by rw [actPut_size]; exact h.size, by rw [actPut_defers]; exact h.defers, fun i => by
    rw [Array.getD_eq_getD_getElem?, put_getElem?]
    have hi := h.slot i
    rw [Array.getD_eq_getD_getElem?] at hi
    split
    · rename_i e
      subst e
      split
      · exact hv
      · rename_i hlt
        rw [Array.getElem?_eq_none (by omega)] at hi
        exact hi
    · exact hi, h.box, h.inv, h.free⟩
theorem eval_agree {a b : Act} {x : Operand} (h : ∀ t, x = .tmp t → a.tmps[t]? = b.tmps[t]?) : a.eval x = b.eval x := by
  cases x with
  | tmp t => simp only [Act.eval, Array.getD_eq_getD_getElem?]; rw [h t rfl]
  | _ => rfl
theorem exec_agree {o : Oper} {a b : Act} (hs : ∀ cs t, o.op ≠ .select cs t) (h : ∀ t ∈ o.looksAt ops, a.tmps[t]? = b.tmps[t]?) : execOp a.eval o = execOp b.eval o :=
  execOp_congr o hs fun x hx => eval_agree fun t ht => h t (List.mem_append_left _ (List.mem_filterMap.2 ⟨.tmp t, by subst ht; simpa using hx, rfl⟩))
theorem yielded_agree {o : Oper} {a b : Act} (h : ∀ t ∈ o.looksAt ops, a.tmps[t]? = b.tmps[t]?) : Region.wanted o (yielded ops a.tmps) = Region.wanted o (yielded ops b.tmps) := by
  unfold Region.wanted
  split
  · rfl
  · rename_i j u hg
    have : yielded ops a.tmps j = yielded ops b.tmps j := by
      unfold yielded
      cases hd : (ops[j]?).bind (·.dst) with
      | none => rfl
      | some d =>
        have : d ∈ o.looksAt ops := by
          unfold Oper.looksAt
          rw [hg]
          exact List.mem_append_right _ (by simp [hd])
        simp only [Option.bind_some]
        rw [h d this]
    rw [this]
theorem mem_ready {listed : Array Bool} {i : Nat} (hs : listed.size = ops.size) : i ∈ Region.ready .any ops listed ↔ i < ops.size ∧ listed.getD i false ≠ true ∧ ∃ o, ops[i]? = some o ∧ ∀ d ∈ deps o, listed.getD d false = true := by
  unfold Region.ready
  simp only [List.mem_filter, List.mem_range, Bool.and_eq_true, Bool.not_eq_true']
  constructor
  · rintro ⟨h1, h2, h3⟩
    have hi : i < listed.size := by omega
    refine ⟨h1, ?_, ?_⟩
    · rw [Array.getD_eq_getD_getElem?, Array.getElem?_eq_getElem hi] at h2 ⊢
      simpa using h2
    · rw [Array.getElem?_eq_getElem h1] at h3 ⊢
      refine ⟨_, rfl, fun d hd => ?_⟩
      simp only [Option.map_some, Option.getD_some] at h3
      unfold deps at hd
      obtain ⟨e, he1, he2⟩ := List.mem_filterMap.1 hd
      have := Array.all_eq_true_iff_forall_mem.1 h3 e (by simpa using he1)
      split at he2
      · rename_i hb
        obtain rfl := Option.some.inj he2
        simpa [hb] using this
      · simp at he2
  · rintro ⟨h1, h2, o, h3, h4⟩
    have hi : i < listed.size := by omega
    refine ⟨h1, ?_, ?_⟩
    · rw [Array.getD_eq_getD_getElem?, Array.getElem?_eq_getElem hi] at h2 ⊢
      simpa using h2
    · rw [h3]
      simp only [Option.map_some, Option.getD_some]
      refine Array.all_eq_true_iff_forall_mem.2 fun e he => ?_
      cases hb : Region.binds .any e with
      | false => rfl
      | true =>
        have := h4 e.on (by unfold deps; exact List.mem_filterMap.2 ⟨e, by simpa using he, by simp [hb]⟩)
        simp [this]
theorem Rel.like [Kept] {V V' : St} {b : Act} {w : World} {G : Gh} {F F' : Nat → Prop} (h : Rel V b w G X F) (hnt : V'.nt = V.nt) (hs : ∀ t, V'.get t = V.get t ∨ V'.get t = .undef) (hb : ∀ id cs, V'.box id = some cs → V.box id = some cs) (hf : ∀ i, F' i → F i) : Rel V' b w G X F' :=
  ⟨h.size.trans hnt.symm, h.defers, fun i => by
    rcases hs i with e | e
    · rw [e]; exact h.slot i
    · rw [e]; exact rvUndef _, fun id cs hc => h.box id cs (hb id cs hc), h.inv, fun id hid => h.free id (hf id hid)⟩
section
variable {N : Nat} {L : Nat → Prop} {a : Act} {w : World} {G : Gh} {ρ : List (Qt × Nat)} {seen : List (Nat × List Nat)} {last : Option Nat} {nid : Nat} {V : St} {b : Act}
theorem Vir.looks [Kept] (h : Vir E Φ ops X st' N fl al Ea xb L a w G ρ seen last nid V b nm) {o : Oper} (hc : Cov ops fl al o) (hd : ∀ d ∈ deps o, L d) : ∀ t ∈ o.looksAt ops, a.tmps[t]? = b.tmps[t]? :=
  fun t ht => h.agree t fun i p hi hn hp hdst => by
    cases he : hard fl i p with
    | true => exact hn (h.eff i p hi hp he)
    | false => exact hn (hc L h.closed hd i p t hp (.inl he) hdst ht)
theorem not_hard {i : Nat} {o : Oper} (h : fl.contains i = true) : hard fl i o = false := by simp only [hard, h, Bool.not_true, Bool.and_false]
theorem Vir.clear [Kept] (h : Vir E Φ ops X st' N fl al Ea xb L a w G ρ seen last nid V b nm) {o : Oper} (hc : Cov ops fl al o) (hd : ∀ d ∈ deps o, L d) : ∀ t ∈ o.looksAt ops, ¬ Pend ops fl seen L t := by
  rintro t ht ⟨i, p, hi, hn, hfl, hp, _, hdst⟩
  exact hn (hc L h.closed hd i p t hp (.inl (not_hard hfl)) hdst ht)
theorem Vir.clear2 [Kept] {q : Qt} {i : Nat} {r : List (Qt × Nat)} {o : Oper} (h : Vir E Φ ops X st' N fl al Ea xb L a w G ((q, i) :: r) seen last nid V b nm) (hh : Head ops fl al q i r seen last o) (he : hard fl i o = false) : ∀ t ∈ o.looksAt ops, ¬ Pend ops fl seen L t := by
  rintro t ht ⟨j, p, hj, hn, hfl, hp, hlp, hdst⟩
  have hs := hh.calmed he j p t hj hfl hp hlp hdst ht
  unfold settled at hs
  cases hl : last with
  | none => rw [hl] at hs; simp at hs
  | some e =>
    rw [hl] at hs
    simp only at hs
    cases hk : look e seen with
    | none => rw [hk] at hs; simp at hs
    | some l =>
      rw [hk] at hs
      simp only at hs
      exact hn (h.tab e l hk L h.closed (h.lastL e hl) j (by simpa using hs))
theorem Vir.away [Kept] {q : Qt} {i : Nat} {r : List (Qt × Nat)} {o : Oper} (h : Vir E Φ ops X st' N fl al Ea xb L a w G ((q, i) :: r) seen last nid V b nm) (hh : Head ops fl al q i r seen last o) (hd : hard fl i o = true → ∀ d ∈ deps o, L d) : ∀ t, o.dst = some t → ¬ Pend ops fl seen L t := by
  rintro t ht ⟨j, p, hj, hn, hfl, hp, _, hdst⟩
  rcases hh.war with ⟨h0, _, h1⟩ | h1
  · rcases h1 j p hj hp with h2 | h2
    · exact hn (anc_in h.tab h.closed (hd h0) j h2)
    · rw [not_hard hfl] at h2; simp at h2
  · obtain ⟨p', hp', h2⟩ := h1 j hj
    obtain rfl : p = p' := by rw [hp] at hp'; exact Option.some.inj hp'
    exact (h2 t ht).2 hdst
theorem Vir.apart [Kept] {q : Qt} {i : Nat} {r : List (Qt × Nat)} {o : Oper} (h : Vir E Φ ops X st' N fl al Ea xb L a w G ((q, i) :: r) seen last nid V b nm) (hh : Head ops fl al q i r seen last o) (ho : ops[i]? = some o) (hi : al.contains i = false) {t : Nat} (ht : Slotted ops Ea t) : t ∉ o.looksAt ops ∧ o.dst ≠ some t := by
  obtain ⟨e, p, he, hp, hd⟩ := ht
  obtain ⟨hal, ⟨q', hm⟩, _⟩ := h.early e he
  rcases List.mem_cons.1 hm with h1 | h1
  · obtain ⟨rfl, rfl⟩ := Prod.mk.inj h1
    rw [hal] at hi; simp at hi
  · obtain ⟨p', hp', _, _, _, _, h2⟩ := planOK_early hh.tail q' e h1 hal
    obtain rfl : p = p' := by rw [hp] at hp'; exact Option.some.inj hp'
    obtain ⟨o', ho', h3⟩ := h2 i (by rw [look_cons, if_pos rfl]; rfl)
    obtain rfl : o = o' := by rw [ho] at ho'; exact Option.some.inj ho'
    exact h3 t hd
theorem cov_cons {seen : List (Nat × List Nat)} (hcov : ∀ i o, (look i seen).isSome = true → ops[i]? = some o → Cov ops fl al o) {i : Nat} {l : List Nat} {o : Oper} (ho : ops[i]? = some o) (hc : Cov ops fl al o) :
    ∀ j p, (look j ((i, l) :: seen)).isSome = true → ops[j]? = some p → Cov ops fl al p := by
  intro j p hj hp
  rw [look_cons] at hj
  split at hj
  · rename_i e
    subst e
    obtain rfl : o = p := by rw [ho] at hp; exact Option.some.inj hp
    exact hc
  · exact hcov j p hj hp
theorem in_cons {seen : List (Nat × List Nat)} {i j : Nat} {l : List Nat} (h : (look j ((i, l) :: seen)).isSome = true) : j = i ∨ (look j seen).isSome = true := by
  rw [look_cons] at h
  split at h
  · rename_i e; exact .inl e
  · exact .inr h
theorem in_tail {seen : List (Nat × List Nat)} {i j : Nat} {l : List Nat} (h : (look j seen).isSome = true) : (look j ((i, l) :: seen)).isSome = true := by
  rw [look_cons]
  split
  · rfl
  · exact h
theorem pend_cons {i : Nat} {l : List Nat} (hfl : fl.contains i = false) {t : Nat} : Pend ops fl ((i, l) :: seen) L t ↔ Pend ops fl seen L t := by
  constructor
  · rintro ⟨j, p, hj, h1, h2, h3⟩
    rcases in_cons hj with rfl | hj
    · rw [hfl] at h2; simp at h2
    · exact ⟨j, p, hj, h1, h2, h3⟩
  · rintro ⟨j, p, hj, h1⟩
    exact ⟨j, p, in_tail hj, h1⟩
theorem drop_congr {p p' : Nat → Prop} (h : ∀ t, p t ↔ p' t) {st : St} : st.drop p = st.drop p' := by
  have : p = p' := funext fun t => propext (h t)
  rw [this]
theorem free_cons {i : Nat} {l : List Nat} (hfl : fl.contains i = false) {k : Nat} (h : FreeN fl ((i, l) :: seen) L nm (nid + 8) k) : FreeN fl seen L nm nid k := by
  rcases h with h | ⟨j, hj, h1, h2, h3⟩
  · exact .inl (by omega)
  · rcases in_cons hj with rfl | hj
    · rw [hfl] at h2; simp at h2
    · exact .inr ⟨j, hj, h1, h2, h3⟩
theorem Vir.pure1 [Kept] {q : Qt} {i : Nat} {r : List (Qt × Nat)} {o : Oper} (h : Vir E Φ ops X st' N fl al Ea xb L a w G ((q, i) :: r) seen last nid V b nm) (ho : ops[i]? = some o) (he : isEff o.op = false) :
    ∃ V' b', Vir E Φ ops X st' N fl al Ea xb L a w G r ((i, ancOf seen o) :: seen) last (nid + 8) V' b' nm := by
  obtain ⟨o', ho', hh⟩ := planOK_head h.plan
  obtain rfl : o = o' := by rw [ho] at ho'; exact Option.some.inj ho'
  have hhard : hard fl i o = false := by simp [hard, he]
  obtain ⟨hq, d, hd⟩ := hh.pure he
  subst hq
  have hev := h.ev
  simp only [evPlan, Array.getElem?_toList, ho, Option.bind_some] at hev
  obtain ⟨t, hw, hev⟩ := Option.bind_eq_some_iff.1 hev
  have hnL : ¬ L i := fun hl => by have := h.Lin i hl; rw [hh.new] at this; simp at this
  have hself : ∀ t, o.dst = some t → t ∉ o.looksAt ops := hh.self
  have hfl : fl.contains i = false := by
    cases hc : fl.contains i with
    | false => rfl
    | true => have := h.lits i o hc ho; rw [he] at this; simp at this
  have hclear := h.clear2 hh hhard
  have haway := h.away hh fun h0 => by rw [hhard] at h0; simp at h0
  have hal : al.contains i = false := by
    cases hc : al.contains i with
    | false => rfl
    | true => rw [alloc_eff (hh.alloc hc).1] at he; simp at he
  have hEi : ¬ Ea i := fun h9 => by rw [(h.early i h9).1] at hal; simp at hal
  have hap : ∀ t, Slotted ops Ea t → t ∉ o.looksAt ops ∧ o.dst ≠ some t := fun t ht => h.apart hh ho hal ht
  have hview : ∀ t ∈ o.looksAt ops, ((V.drop fun t => Pend ops fl seen L t ∨ Slotted ops Ea t).ext xb).get t = V.get t := fun t ht => by
    rw [get_ext fun q hq e => (hap _ (h.slots q hq)).1 (e ▸ ht), get_drop fun h9 => h9.elim (hclear t ht) fun h8 => (hap t h8).1 ht]
  -- the state behind it
  have key : ∃ V' v cv, V.put o.dst v = some V' ∧ RV w G v cv ∧ evPlan E Φ ops.toList r (nid + 8) V' = some st' ∧ Stable E Φ ops V' o := by
    cases t with
    | true =>
      simp only [if_true] at hev
      obtain ⟨V', h1, h2⟩ := Option.bind_eq_some_iff.1 hev
      rw [evOp0_free he] at h1
      obtain ⟨⟨v, ids⟩, h3, h4⟩ := Option.bind_eq_some_iff.1 h1
      have h3' : evFree E Φ ((V.drop fun t => Pend ops fl seen L t ∨ Slotted ops Ea t).ext xb).box nid ((V.drop fun t => Pend ops fl seen L t ∨ Slotted ops Ea t).ext xb).val o.op = some (v, ids) :=
        evFree_congr (eff_call he) (fun _ _ _ id _ cs _ hb => box_ext hb) (val_congr fun t ht => hview t (looks_tmps ht)) h3
      obtain ⟨_, cv, _, hx⟩ := evPure_ok h.rel.sees h3' (eff_call he)
      refine ⟨V', v, cv, h4, hx, h2, ?_⟩
      have hqt := put_quiet h4
      have hg : ∀ t ∈ o.looksAt ops, V'.get t = V.get t := fun t ht => hqt.1 t fun e => hself t e ht
      refine ⟨d, hd, eff_call he, .inl ⟨by rw [wanted_congr hg]; exact hw, nid, v, ids, ?_, ?_⟩⟩
      · exact evFree_congr (eff_call he) (fun _ _ _ id _ cs _ hb => hqt.2 id cs hb) (val_congr fun t ht => hg t (looks_tmps ht)) h3
      · rw [hd] at h4; exact put_slot h4
    | false =>
      simp only [Bool.false_eq_true, if_false] at hev
      obtain ⟨V', h1, h2⟩ := Option.bind_eq_some_iff.1 hev
      refine ⟨V', .tup [], undef, h1, rvSkip, h2, ?_⟩
      have hqt := put_quiet h1
      have hg : ∀ t ∈ o.looksAt ops, V'.get t = V.get t := fun t ht => hqt.1 t fun e => hself t e ht
      refine ⟨d, hd, eff_call he, .inr ⟨by rw [wanted_congr hg]; exact hw, ?_⟩⟩
      rw [hd] at h1; exact put_slot h1
  obtain ⟨V', v, cv, hput, hx, hev', hst⟩ := key
  have hqt := put_quiet hput
  have hput' : ((V.drop fun t => Pend ops fl seen L t ∨ Slotted ops Ea t).ext xb).put o.dst v = some ((V'.drop fun t => Pend ops fl seen L t ∨ Slotted ops Ea t).ext xb) := put_ext _ (by
    rw [put_drop fun t ht h9 => h9.elim (haway t ht) fun h8 => (hap t h8).2 ht, hput]; rfl)
  refine ⟨V', b.put o.dst cv, ?_⟩
  exact {
    plan := by have := hh.tail; rw [hhard, Bool.false_and] at this; exact this
    tab := h.tab.cons ho
    cov := cov_cons h.cov ho (hh.cov h.tab)
    topo := ⟨⟨o, ho, hh.dep⟩, h.topo⟩
    Lin := fun j hj => in_tail (h.Lin j hj)
    eff := fun j p hj hp hep => by
      rcases in_cons hj with rfl | hj
      · obtain rfl : o = p := by rw [ho] at hp; exact Option.some.inj hp
        rw [hhard] at hep; simp at hep
      · exact h.eff j p hj hp hep
    lastL := h.lastL
    closed := h.closed
    rel := by
      rw [drop_congr fun t => or_congr (pend_cons hfl) Iff.rfl]
      exact ((h.rel.put hx hput').1).weaken fun k hk => ⟨free_cons hfl hk.1, fun h9 => hk.2 ((named_cons hEi).1 h9)⟩
    bare := h.bare
    slots := h.slots
    closedE := h.closedE
    early := fun j hj => by
      have hji : j ≠ i := fun e => hEi (e ▸ hj)
      obtain ⟨h1, ⟨q', h2⟩, p, d', cs, h3, h4, h5, h6, h7, h8⟩ := h.early j hj
      rw [nameIn_ne hji] at h6 h7 h8
      exact ⟨h1, ⟨q', (List.mem_cons.1 h2).resolve_left fun e => hji (Prod.mk.inj e).2⟩, p, d', cs, h3, h4, h5, h6, h7, by rw [put_box hput]; exact h8⟩
    ev := hev'
    count := by have := h.count; simp only [List.length_cons] at this; omega
    defers := by rw [actPut_defers]; exact h.defers
    size := by rw [actPut_size]; exact h.size
    agree := fun t ht => by
      have hne : d ≠ t := fun e => ht i o (by rw [look_cons, if_pos rfl]; rfl) hnL ho (by rw [hd, e])
      rw [hd, put_getElem?, if_neg hne]
      exact h.agree t fun j p hj hl hp => ht j p (in_tail hj) hl hp
    stab := fun j p hj hl hp hjf => by
      rcases in_cons hj with rfl | hj
      · obtain rfl : o = p := by rw [ho] at hp; exact Option.some.inj hp
        exact hst
      · obtain ⟨p', hp', hwar⟩ := (hh.war.resolve_left fun h9 => by rw [hhard] at h9; exact absurd h9.1 (by decide)) j hj
        obtain rfl : p = p' := by rw [hp] at hp'; exact Option.some.inj hp'
        exact (h.stab j p hj hl hp hjf).mono hqt hwar
    flo := fun j p hj hl hp hjf => by
      rcases in_cons hj with rfl | hj
      · rw [hfl] at hjf; simp at hjf
      · obtain ⟨p', hp', hwar⟩ := (hh.war.resolve_left fun h9 => by rw [hhard] at h9; exact absurd h9.1 (by decide)) j hj
        obtain rfl : p = p' := by rw [hp] at hp'; exact Option.some.inj hp'
        exact (h.flo j p hj hl hp hjf).mono (put_tree hput) (put_nt hput) (fun t ht => hqt.1 t fun e => (hwar t e).1 ht) fun d hd => hqt.1 d fun e => (hwar d e).2 hd
    nmlt := fun j hj hjf => by
      rcases in_cons hj with rfl | hj
      · rw [hfl] at hjf; simp at hjf
      · have := h.nmlt j hj hjf; omega
    nmdis := fun j k hj hk hjf hkf hne => by
      rcases in_cons hj with rfl | hj
      · rw [hfl] at hjf; simp at hjf
      rcases in_cons hk with rfl | hk
      · rw [hfl] at hkf; simp at hkf
      exact h.nmdis j k hj hk hjf hkf hne
    lits := h.lits }
theorem Vir.lit1 [Kept] {q : Qt} {i : Nat} {r : List (Qt × Nat)} {o : Oper} (h : Vir E Φ ops X st' N fl al Ea xb L a w G ((q, i) :: r) seen last nid V b nm) (ho : ops[i]? = some o) (he : isEff o.op = true) (hhard : hard fl i o = false) (hlit0 : isLit o = true) :
    ∃ V' nm', Vir E Φ ops X st' N fl al Ea xb L a w G r ((i, ancOf seen o) :: seen) last (nid + 8) V' b nm' := by
  obtain ⟨o', ho', hh⟩ := planOK_head h.plan
  obtain rfl : o = o' := by rw [ho] at ho'; exact Option.some.inj ho'
  obtain ⟨hq | ⟨_, _, hnl⟩, d, hd⟩ := hh.lit he hhard
  rotate_left
  · rw [hlit0] at hnl; simp at hnl
  obtain ⟨hq, hlit⟩ := hq
  subst hq
  have hev := h.ev
  simp only [evPlan, Array.getElem?_toList, ho, Option.bind_some, wanted_free (lit_guard hlit), if_true] at hev
  obtain ⟨V', hop, hev⟩ := Option.bind_eq_some_iff.1 hev
  rw [lit_op hlit] at hop
  obtain ⟨v, hv, hput⟩ := Option.bind_eq_some_iff.1 hop
  have hnL : ¬ L i := fun hl => by have := h.Lin i hl; rw [hh.new] at this; simp at this
  have hfl : fl.contains i = true := by
    cases hc : fl.contains i with
    | true => rfl
    | false => simp [hard, he] at hhard; rw [List.contains_iff_mem.2 hhard] at hc; simp at hc
  have hal : al.contains i = false := by
    cases hc : al.contains i with
    | false => rfl
    | true => rw [(hh.alloc hc).2.2.2] at hfl; simp at hfl
  have hEi : ¬ Ea i := fun h9 => by rw [(h.early i h9).1] at hal; simp at hal
  have hqt := put_quiet hput
  have hwar := hh.war.resolve_left fun h9 => by rw [hhard] at h9; exact absurd h9.1 (by decide)
  have hnew : ∀ j, (look j seen).isSome = true → j ≠ i := fun j hj e => by subst e; rw [hh.new] at hj; simp at hj
  have hgd : V'.get d = v := by rw [hd] at hput; exact put_slot hput
  have hlt : d < V'.nt := by
    rw [put_nt hput]
    rw [hd] at hput
    unfold St.put at hput
    simp only at hput
    split at hput
    · assumption
    · simp at hput
  refine ⟨V', fun j => if j = i then nid else nm j, ?_⟩
  exact {
    plan := by have := hh.tail; rw [hhard, Bool.false_and] at this; exact this
    tab := h.tab.cons ho
    cov := cov_cons h.cov ho (hh.cov h.tab)
    topo := ⟨⟨o, ho, hh.dep⟩, h.topo⟩
    Lin := fun j hj => in_tail (h.Lin j hj)
    eff := fun j p hj hp hep => by
      rcases in_cons hj with rfl | hj
      · obtain rfl : o = p := by rw [ho] at hp; exact Option.some.inj hp
        rw [hhard] at hep; simp at hep
      · exact h.eff j p hj hp hep
    lastL := h.lastL
    closed := h.closed
    rel := by
      refine h.rel.like (by rw [nt_ext, nt_drop, nt_ext, nt_drop]; exact put_nt hput) (fun t => ?_) (fun id cs hc => by show look id (V.bx ++ xb.2) = some cs; rw [← put_bx hput]; exact hc) fun k hk => ?_
      · by_cases hs : Slotted ops Ea t
        · rw [view_in (.inr hs), view_in (.inr hs)]; exact .inl rfl
        have hnx : ∀ q ∈ xb.1, q.1 ≠ t := fun q hq e => hs (by rw [← e]; exact h.slots q hq)
        rw [get_ext hnx, get_ext hnx]
        by_cases hp : Pend ops fl ((i, ancOf seen o) :: seen) L t
        · exact .inr (get_drop_in (.inl hp))
        · have hp0 : ¬ Pend ops fl seen L t := fun ⟨j, p, hj, h1⟩ => hp ⟨j, p, in_tail hj, h1⟩
          rw [get_drop fun h9 => h9.elim hp hs, get_drop fun h9 => h9.elim hp0 hs]
          refine .inl (hqt.1 t fun e => hp ⟨i, o, by rw [look_cons, if_pos rfl]; rfl, hnL, hfl, ho, hlit, e⟩)
      · refine ⟨?_, fun h9 => hk.2 ((named_cons hEi).1 h9)⟩
        rcases hk.1 with hk | ⟨j, hj, h1, h2, h3, h4⟩
        · exact .inl (by omega)
        · rcases in_cons hj with rfl | hj
          · simp only [if_pos] at h3; exact .inl h3
          · simp only [if_neg (hnew j hj)] at h3 h4
            exact .inr ⟨j, hj, h1, h2, h3, h4⟩
    bare := h.bare
    slots := h.slots
    closedE := h.closedE
    early := fun j hj => by
      have hji : j ≠ i := fun e => hEi (e ▸ hj)
      obtain ⟨h1, ⟨q', h2⟩, p, d', cs, h3, h4, h5, h6, h7, h8⟩ := h.early j hj
      rw [nameIn_ne hji] at h6 h7 h8
      exact ⟨h1, ⟨q', (List.mem_cons.1 h2).resolve_left fun e => hji (Prod.mk.inj e).2⟩, p, d', cs, h3, h4, h5, h6, h7, by rw [put_box hput]; exact h8⟩
    ev := hev
    count := by have := h.count; simp only [List.length_cons] at this; omega
    defers := h.defers
    size := h.size
    agree := fun t ht => h.agree t fun j p hj hl hp => ht j p (in_tail hj) hl hp
    stab := fun j p hj hl hp hjf => by
      rcases in_cons hj with rfl | hj
      · rw [hfl] at hjf; simp at hjf
      · obtain ⟨p', hp', hwar⟩ := hwar j hj
        obtain rfl : p = p' := by rw [hp] at hp'; exact Option.some.inj hp'
        exact (h.stab j p hj hl hp hjf).mono hqt hwar
    flo := fun j p hj hl hp hjf => by
      rcases in_cons hj with rfl | hj
      · obtain rfl : o = p := by rw [ho] at hp; exact Option.some.inj hp
        simp only [if_pos]
        exact lit_floats hlit hv hd (put_tree hput) (fun t ht => hqt.1 t fun e => hh.self t e ht) hgd hlt
      · obtain ⟨p', hp', hwar⟩ := hwar j hj
        obtain rfl : p = p' := by rw [hp] at hp'; exact Option.some.inj hp'
        simp only [if_neg (hnew j hj)]
        exact (h.flo j p hj hl hp hjf).mono (put_tree hput) (put_nt hput) (fun t ht => hqt.1 t fun e => (hwar t e).1 ht) fun d hd => hqt.1 d fun e => (hwar d e).2 hd
    nmlt := fun j hj hjf => by
      rcases in_cons hj with rfl | hj
      · simp only [if_pos]; omega
      · simp only [if_neg (hnew j hj)]
        have := h.nmlt j hj hjf; omega
    nmdis := fun j k hj hk hjf hkf hne => by
      rcases in_cons hj with rfl | hj
      · rcases in_cons hk with rfl | hk
        · exact absurd rfl hne
        · simp only [if_pos, if_neg (hnew k hk)]
          exact .inr (h.nmlt k hk hkf)
      · rename_i hj0
        clear hj0
        rcases in_cons hk with rfl | hk
        · simp only [if_pos, if_neg (hnew j hj)]
          exact .inl (h.nmlt j hj hjf)
        · simp only [if_neg (hnew j hj), if_neg (hnew k hk)]
          exact h.nmdis j k hj hk hjf hkf hne
    lits := h.lits }
theorem Vir.call1 [Kept] {q : Qt} {i : Nat} {r : List (Qt × Nat)} {o : Oper} (h : Vir E Φ ops X st' N fl al Ea xb L a w G ((q, i) :: r) seen last nid V b nm) (ho : ops[i]? = some o) (he : isEff o.op = true) (hhard : hard fl i o = false) (hlit0 : isLit o = false) :
    ∃ V' b' nm', Vir E Φ ops X st' N fl al Ea xb L a w G r ((i, ancOf seen o) :: seen) last (nid + 8) V' b' nm' := by
  obtain ⟨o', ho', hh⟩ := planOK_head h.plan
  obtain rfl : o = o' := by rw [ho] at ho'; exact Option.some.inj ho'
  obtain ⟨⟨_, hnl⟩ | ⟨hq, hcg, _⟩, d, hd⟩ := hh.lit he hhard
  · rw [hlit0] at hnl; simp at hnl
  subst hq
  have hev := h.ev
  simp only [evPlan, Array.getElem?_toList, ho, Option.bind_some, wanted_free (call_guard hcg), if_true] at hev
  obtain ⟨V', hop, hev⟩ := Option.bind_eq_some_iff.1 hev
  unfold evOpF at hop
  obtain ⟨v, hv, hput⟩ := Option.bind_eq_some_iff.1 hop
  have hsc : isScal v = true := (call_ev (n := 0) hv (fun _ _ => rfl) hput).2
  have hx : ∃ cv, RV w G v cv := by
    cases v with
    | int k n => exact ⟨_, .ro (.int _ k n)⟩
    | bool b => exact ⟨_, .ro (.bool _ b)⟩
    | str s => exact ⟨_, .ro (.str _ s)⟩
    | nils => exact ⟨.slice none 0 0, by first | exact .nils _ _ | exact .ro (.nils _ _) | exact .ro (.nils _) | exact .nils | exact .nils _⟩
    | _ => simp [isScal] at hsc
  obtain ⟨cv, hx⟩ := hx
  have hnL : ¬ L i := fun hl => by have := h.Lin i hl; rw [hh.new] at this; simp at this
  have hfl : fl.contains i = true := by
    cases hc : fl.contains i with
    | true => rfl
    | false => simp [hard, he] at hhard; rw [List.contains_iff_mem.2 hhard] at hc; simp at hc
  have hal : al.contains i = false := by
    cases hc : al.contains i with
    | false => rfl
    | true => rw [(hh.alloc hc).2.2.2] at hfl; simp at hfl
  have hEi : ¬ Ea i := fun h9 => by rw [(h.early i h9).1] at hal; simp at hal
  have hqt := put_quiet hput
  have hwar := hh.war.resolve_left fun h9 => by rw [hhard] at h9; exact absurd h9.1 (by decide)
  have hnew : ∀ j, (look j seen).isSome = true → j ≠ i := fun j hj e => by subst e; rw [hh.new] at hj; simp at hj
  have hgd : V'.get d = v := by rw [hd] at hput; exact put_slot hput
  have hlt : d < V'.nt := by
    rw [put_nt hput]
    rw [hd] at hput
    exact put_lt hput
  have haway := h.away hh fun h0 => by rw [hhard] at h0; simp at h0
  have hap : ∀ t, Slotted ops Ea t → t ∉ o.looksAt ops ∧ o.dst ≠ some t := fun t ht => h.apart hh ho hal ht
  have hput' : ((V.drop fun t => Pend ops fl seen L t ∨ Slotted ops Ea t).ext xb).put o.dst v = some ((V'.drop fun t => Pend ops fl seen L t ∨ Slotted ops Ea t).ext xb) := put_ext _ (by
    rw [put_drop fun t ht h9 => h9.elim (haway t ht) fun h8 => (hap t h8).2 ht, hput]; rfl)
  have hpend : ∀ t, Pend ops fl ((i, ancOf seen o) :: seen) L t ↔ Pend ops fl seen L t := by
    intro t
    constructor
    · rintro ⟨j, p, hj, h1, h2, h3, h4, h5⟩
      rcases in_cons hj with rfl | hj
      · obtain rfl : o = p := by rw [ho] at h3; exact Option.some.inj h3
        rw [hlit0] at h4; simp at h4
      · exact ⟨j, p, hj, h1, h2, h3, h4, h5⟩
    · rintro ⟨j, p, hj, h1⟩
      exact ⟨j, p, in_tail hj, h1⟩
  refine ⟨V', b.put o.dst cv, fun j => if j = i then nid else nm j, ?_⟩
  exact {
    plan := by have := hh.tail; rw [hhard, Bool.false_and] at this; exact this
    tab := h.tab.cons ho
    cov := cov_cons h.cov ho (hh.cov h.tab)
    topo := ⟨⟨o, ho, hh.dep⟩, h.topo⟩
    Lin := fun j hj => in_tail (h.Lin j hj)
    eff := fun j p hj hp hep => by
      rcases in_cons hj with rfl | hj
      · obtain rfl : o = p := by rw [ho] at hp; exact Option.some.inj hp
        rw [hhard] at hep; simp at hep
      · exact h.eff j p hj hp hep
    lastL := h.lastL
    closed := h.closed
    rel := by
      rw [drop_congr fun t => or_congr (hpend t) Iff.rfl]
      refine ((h.rel.put hx hput').1).weaken fun k hk => ⟨?_, fun h9 => hk.2 ((named_cons hEi).1 h9)⟩
      rcases hk.1 with hk | ⟨j, hj, h1, h2, h3, h4⟩
      · exact .inl (by omega)
      · rcases in_cons hj with rfl | hj
        · simp only [if_pos] at h3; exact .inl h3
        · simp only [if_neg (hnew j hj)] at h3 h4
          exact .inr ⟨j, hj, h1, h2, h3, h4⟩
    bare := h.bare
    slots := h.slots
    closedE := h.closedE
    early := fun j hj => by
      have hji : j ≠ i := fun e => hEi (e ▸ hj)
      obtain ⟨h1, ⟨q', h2⟩, p, d', cs, h3, h4, h5, h6, h7, h8⟩ := h.early j hj
      rw [nameIn_ne hji] at h6 h7 h8
      exact ⟨h1, ⟨q', (List.mem_cons.1 h2).resolve_left fun e => hji (Prod.mk.inj e).2⟩, p, d', cs, h3, h4, h5, h6, h7, by rw [put_box hput]; exact h8⟩
    ev := hev
    count := by have := h.count; simp only [List.length_cons] at this; omega
    defers := by rw [actPut_defers]; exact h.defers
    size := by rw [actPut_size]; exact h.size
    agree := fun t ht => by
      have hne : d ≠ t := fun e => ht i o (by rw [look_cons, if_pos rfl]; rfl) hnL ho (by rw [hd, e])
      rw [hd, put_getElem?, if_neg hne]
      exact h.agree t fun j p hj hl hp => ht j p (in_tail hj) hl hp
    stab := fun j p hj hl hp hjf => by
      rcases in_cons hj with rfl | hj
      · rw [hfl] at hjf; simp at hjf
      · obtain ⟨p', hp', hwar⟩ := hwar j hj
        obtain rfl : p = p' := by rw [hp] at hp'; exact Option.some.inj hp'
        exact (h.stab j p hj hl hp hjf).mono hqt hwar
    flo := fun j p hj hl hp hjf => by
      rcases in_cons hj with rfl | hj
      · obtain rfl : o = p := by rw [ho] at hp; exact Option.some.inj hp
        simp only [if_pos]
        refine ⟨d, v, hd, call_guard hcg, fun st s e1 e2 e3 => ?_, hgd, hlt⟩
        exact (call_ev hv (fun x hx => (e2 x hx).trans (val_congr (fun t ht => hqt.1 t fun e => hh.self t e (looks_tmps ht)) x hx)) e3).1
      · obtain ⟨p', hp', hwar⟩ := hwar j hj
        obtain rfl : p = p' := by rw [hp] at hp'; exact Option.some.inj hp'
        simp only [if_neg (hnew j hj)]
        exact (h.flo j p hj hl hp hjf).mono (put_tree hput) (put_nt hput) (fun t ht => hqt.1 t fun e => (hwar t e).1 ht) fun d hd => hqt.1 d fun e => (hwar d e).2 hd
    nmlt := fun j hj hjf => by
      rcases in_cons hj with rfl | hj
      · simp only [if_pos]; omega
      · simp only [if_neg (hnew j hj)]
        have := h.nmlt j hj hjf; omega
    nmdis := fun j k hj hk hjf hkf hne => by
      rcases in_cons hj with rfl | hj
      · rcases in_cons hk with rfl | hk
        · exact absurd rfl hne
        · simp only [if_pos, if_neg (hnew k hk)]
          exact .inr (h.nmlt k hk hkf)
      · rename_i hj0
        clear hj0
        rcases in_cons hk with rfl | hk
        · simp only [if_pos, if_neg (hnew j hj)]
          exact .inl (h.nmlt j hj hjf)
        · simp only [if_neg (hnew j hj), if_neg (hnew k hk)]
          exact h.nmdis j k hj hk hjf hkf hne
    lits := h.lits }
theorem look_filter_ne {α : Type} {p : Nat → Bool} {i : Nat} {l : List (Nat × α)} (h : p i = true) : look i (l.filter fun q => p q.1) = look i l := by rw [look_filter, if_pos h]
theorem Vir.alloc1 [Kept] {q : Qt} {i : Nat} {r : List (Qt × Nat)} {o : Oper} (h : Vir E Φ ops X st' N fl al Ea xb L a w G ((q, i) :: r) seen last nid V b nm) (ho : ops[i]? = some o) (hE : Ea i) :
    ∃ xb' V', Vir E Φ ops X st' N fl al (fun j => Ea j ∧ j ≠ i) xb' (fun j => L j ∨ j = i) a w G r ((i, ancOf seen o) :: seen) last (nid + 8) V' b nm := by
  obtain ⟨o', ho', hh⟩ := planOK_head h.plan
  obtain rfl : o = o' := by rw [ho] at ho'; exact Option.some.inj ho'
  obtain ⟨hal, _, p, d, cs, hp, hcs, hd, hlk, hbx, hnb⟩ := h.early i hE
  obtain rfl : o = p := by rw [ho] at hp; exact Option.some.inj hp
  clear hp ho'
  rw [nameIn_head] at hlk hbx hnb
  obtain ⟨hall, hqs, _, hfl⟩ := hh.alloc hal
  have heff := alloc_eff hall
  have hhard : hard fl i o = true := by simp only [hard, heff, hfl, Bool.not_false, Bool.and_self]
  have hwar := hh.war.resolve_left fun h9 => by rw [hal] at h9; simp at h9
  have hev := h.ev
  simp only [evPlan, Array.getElem?_toList, ho, Option.bind_some, wanted_free (alloc_guard hall), if_true] at hev
  subst hqs
  obtain ⟨V', h1, hev1⟩ := Option.bind_eq_some_iff.1 hev
  have hq := evOpQ_quiet hnb (evOpT_Q h1).2
  have htree := evOp0_tree (step_op (q := .still) heff h1)
  have hntV := step_nt (q := .still) h1
  have hop := step_op (q := .still) heff h1
  rw [alloc_ev hall hcs, hd] at hop
  have hlt : d < V.nt := by have := put_lt hop; exact this
  have hV' : V' = { V with sl := (d, .ptr nid 0) :: V.sl, bx := (nid, cs) :: V.bx } := by
    have h2 : (V.setBox nid cs).put (some d) (.ptr nid 0) = some { V with sl := (d, .ptr nid 0) :: V.sl, bx := (nid, cs) :: V.bx } := if_pos hlt
    rw [h2] at hop
    exact (Option.some.inj hop).symm
  have hnL : ¬ L i := fun hl => by have := h.Lin i hl; rw [hh.new] at this; simp at this
  have hpend : ∀ t, Pend ops fl ((i, ancOf seen o) :: seen) (fun j => L j ∨ j = i) t ↔ Pend ops fl seen L t := by
    intro t
    constructor
    · rintro ⟨j, p, hj, h1, h2, h3⟩
      rcases in_cons hj with rfl | hj
      · rw [hfl] at h2; simp at h2
      · exact ⟨j, p, hj, fun h4 => h1 (.inl h4), h2, h3⟩
    · rintro ⟨j, p, hj, h1, h2, h3⟩
      refine ⟨j, p, in_tail hj, fun h4 => h4.elim h1 fun e => ?_, h2, h3⟩
      subst e; rw [hfl] at h2; simp at h2
  have hdp : ¬ Pend ops fl seen L d := by
    rintro ⟨j, p, hj, hn, hjf, hp, _, hdst⟩
    obtain ⟨p', hp', h2⟩ := hwar j hj
    obtain rfl : p = p' := by rw [hp] at hp'; exact Option.some.inj hp'
    exact (h2 d hd).2 hdst
  have htwo : ∀ j p, Ea j → j ≠ i → ops[j]? = some p → p.dst ≠ some d := fun j p hj hne hp =>
    planOK_two h.plan ⟨_, List.mem_cons_self⟩ (h.early j hj).2.1 (Ne.symm hne) hal (h.early j hj).1 ho hp hd
  have hslot : ∀ t, Slotted ops (fun j => Ea j ∧ j ≠ i) t ↔ Slotted ops Ea t ∧ t ≠ d := by
    intro t
    constructor
    · rintro ⟨j, p, ⟨hj, hne⟩, hp, ht⟩
      exact ⟨⟨j, p, hj, hp, ht⟩, fun e => htwo j p hj hne hp (by rw [ht, e])⟩
    · rintro ⟨⟨j, p, hj, hp, ht⟩, hne⟩
      refine ⟨j, p, ⟨hj, fun e => hne ?_⟩, hp, ht⟩
      subst e
      obtain rfl : o = p := by rw [ho] at hp; exact Option.some.inj hp
      rw [hd] at ht; exact (Option.some.inj ht).symm
  have hkeep : ∀ t ≠ d, look t (xb.1.filter fun s => !(s.1 == d)) = look t xb.1 := fun t ht => look_filter_ne (p := fun k => !(k == d)) (by simpa using ht)
  have hkeepb : ∀ t ≠ nid, look t (xb.2.filter fun s => !(s.1 == nid)) = look t xb.2 := fun t ht => look_filter_ne (p := fun k => !(k == nid)) (by simpa using ht)
  refine ⟨(xb.1.filter fun s => !(s.1 == d), xb.2.filter fun s => !(s.1 == nid)), V', ?_⟩
  exact {
    plan := by have := hh.tail; rw [hal, Bool.not_true, Bool.and_false] at this; exact this
    tab := h.tab.cons ho
    cov := cov_cons h.cov ho (hh.cov h.tab)
    topo := ⟨⟨o, ho, hh.dep⟩, h.topo⟩
    Lin := fun j hj => hj.elim (fun hj => in_tail (h.Lin j hj)) fun e => by rw [e, look_cons, if_pos rfl]; rfl
    eff := fun j p hj hp hep => (in_cons hj).elim .inr fun hj => .inl (h.eff j p hj hp hep)
    lastL := fun e he => .inl (h.lastL e he)
    closed := fun j p hj hp k hk => by
      rcases hj with hj | rfl
      · exact .inl (h.closed j p hj hp k hk)
      · obtain rfl : o = p := by rw [ho] at hp; exact Option.some.inj hp
        rcases h.closedE j o hE ho k hk with h2 | h2
        · exact .inl h2
        · obtain ⟨_, _, _, _, _, h3, _⟩ := planOK_early h.plan _ k (h.early k h2).2.1.choose_spec (h.early k h2).1
          have := hh.dep k hk
          rw [h3] at this; simp at this
    closedE := fun j p hj hp k hk => by
      rcases h.closedE j p hj.1 hp k hk with h2 | h2
      · exact .inl (.inl h2)
      · by_cases e : k = i
        · exact .inl (.inr e)
        · exact .inr ⟨h2, e⟩
    rel := by
      refine h.rel.like (by rw [nt_ext, nt_drop, nt_ext, nt_drop]; exact hntV) (fun t => ?_) (fun id ds hc => ?_) fun k hk => ?_
      · left
        by_cases htd : t = d
        · subst htd
          have e1 : ((V.drop fun t => Pend ops fl seen L t ∨ Slotted ops Ea t).ext xb).get t = .ptr nid 0 := by rw [view_in (.inr ⟨i, o, hE, ho, hd⟩), hlk, Option.getD_some]
          rw [e1, get_ext, get_drop]
          · rw [hV']; simp only [St.get, look_cons, if_pos]; rfl
          · exact fun h9 => h9.elim (fun h8 => hdp ((hpend _).1 h8)) fun h8 => ((hslot _).1 h8).2 rfl
          · intro s hs e
            have := (List.mem_filter.1 hs).2
            simp [e] at this
        · by_cases hs : Slotted ops Ea t
          · have e1 : ((V.drop fun t => Pend ops fl seen L t ∨ Slotted ops Ea t).ext xb).get t = (look t xb.1).getD .undef := view_in (.inr hs)
            rw [e1, view_in (.inr ((hslot t).2 ⟨hs, htd⟩))]
            simp only
            rw [hkeep t htd]
          · have hs' : ¬ Slotted ops (fun j => Ea j ∧ j ≠ i) t := fun h9 => hs ((hslot t).1 h9).1
            have hnx : ∀ s ∈ xb.1, s.1 ≠ t := fun s hs2 e => hs (by rw [← e]; exact h.slots s hs2)
            rw [get_ext hnx, get_ext (fun s hs2 => hnx s (List.mem_filter.1 hs2).1)]
            by_cases hp : Pend ops fl seen L t
            · rw [get_drop_in (.inl ((hpend t).2 hp)), get_drop_in (.inl hp)]
            · rw [get_drop fun h9 => h9.elim (fun h8 => hp ((hpend t).1 h8)) hs', get_drop fun h9 => h9.elim hp hs]
              rw [hV']; simp only [St.get, look_cons, if_neg htd]
      · show look id (V.bx ++ xb.2) = some ds
        have hc' : look id (V'.bx ++ xb.2.filter fun s => !(s.1 == nid)) = some ds := hc
        rw [hV'] at hc'
        simp only [List.cons_append, look_cons] at hc'
        split at hc'
        · rename_i e
          subst e
          obtain rfl := Option.some.inj hc'
          rw [look_append_none hnb]
          exact hbx
        · rename_i hne
          cases hb : look id V.bx with
          | some cs' => rw [look_append hb] at hc' ⊢; exact hc'
          | none => rw [look_append_none hb] at hc' ⊢; rw [hkeepb id hne] at hc'; exact hc'
      · refine ⟨?_, ?_⟩
        · rcases hk.1 with h2 | ⟨j, hj, h2, h3, h4⟩
          · exact .inl (by omega)
          · rcases in_cons hj with rfl | hj
            · rw [hfl] at h3; simp at h3
            · exact .inr ⟨j, hj, fun h5 => h2 (.inl h5), h3, h4⟩
        · rintro ⟨j, hj, h2, h3⟩
          by_cases e : j = i
          · subst e
            rw [nameIn_head] at h2 h3
            rcases hk.1 with h4 | ⟨k', hk', h4, h5, h6, h7⟩
            · omega
            · rcases in_cons hk' with rfl | hk'
              · rw [hfl] at h5; simp at h5
              · have := h.nmlt k' hk' h5; omega
          · rw [nameIn_ne e] at h2 h3
            exact hk.2 ⟨j, ⟨hj, e⟩, h2, h3⟩
    bare := ⟨fun s hs => h.bare.1 s (List.mem_filter.1 hs).1, fun s hs => h.bare.2 s (List.mem_filter.1 hs).1⟩
    slots := fun s hs => (hslot _).2 ⟨h.slots s (List.mem_filter.1 hs).1, fun e => by have := (List.mem_filter.1 hs).2; simp [e] at this⟩
    early := fun j hj => by
      obtain ⟨h1, ⟨q', h2⟩, p, d', cs', h3, h4, h5, h6, h7, h8⟩ := h.early j hj.1
      have h2' := (List.mem_cons.1 h2).resolve_left fun e => hj.2 (Prod.mk.inj e).2
      rw [nameIn_ne hj.2] at h6 h7 h8
      have hne : nameIn r (nid + 8) j ≠ nid := by have := nameIn_le (ρ := r) (nid := nid + 8) (i := j); omega
      have hdne : d' ≠ d := fun e => htwo j p hj.1 hj.2 h3 (by rw [h5, e])
      refine ⟨h1, ⟨q', h2'⟩, p, d', cs', h3, h4, h5, ?_, ?_, ?_⟩
      · simp only; rw [hkeep d' hdne]; exact h6
      · simp only; rw [hkeepb _ hne]; exact h7
      · rw [hV']; simp only [St.box, look_cons, if_neg hne]; exact h8
    ev := hev1
    count := by have := h.count; simp only [List.length_cons] at this; omega
    defers := h.defers
    size := h.size
    agree := fun t ht => h.agree t fun j p hj hl hp => ht j p (in_tail hj) (fun h9 => h9.elim hl fun e => by subst e; rw [hh.new] at hj; simp at hj) hp
    stab := fun j p hj hl hp hjf => by
      rcases in_cons hj with rfl | hj
      · exact absurd (.inr rfl) hl
      · obtain ⟨p', hp', h2⟩ := hwar j hj
        obtain rfl : p = p' := by rw [hp] at hp'; exact Option.some.inj hp'
        exact (h.stab j p hj (fun h9 => hl (.inl h9)) hp hjf).mono hq h2
    flo := fun j p hj hl hp hjf => by
      rcases in_cons hj with rfl | hj
      · exact absurd (.inr rfl) hl
      · obtain ⟨p', hp', h2⟩ := hwar j hj
        obtain rfl : p = p' := by rw [hp] at hp'; exact Option.some.inj hp'
        exact (h.flo j p hj (fun h9 => hl (.inl h9)) hp hjf).mono htree hntV (fun t ht => hq.1 t fun e => (h2 t e).1 ht) fun d hd => hq.1 d fun e => (h2 d e).2 hd
    nmlt := fun j hj hjf => by
      rcases in_cons hj with rfl | hj
      · rw [hfl] at hjf; simp at hjf
      · have := h.nmlt j hj hjf; omega
    nmdis := fun j k hj hk hjf hkf hne => by
      rcases in_cons hj with rfl | hj
      · rw [hfl] at hjf; simp at hjf
      rcases in_cons hk with rfl | hk
      · rw [hfl] at hkf; simp at hkf
      exact h.nmdis j k hj hk hjf hkf hne
    lits := h.lits }
end
section
variable {N : Nat} {a : Act} {w : World} {G : Gh} {last : Option Nat}
theorem Vir.advance [Kept] : ∀ {ρ : List (Qt × Nat)} {seen : List (Nat × List Nat)} {nid : Nat} {V : St} {b : Act} {nm : Nat → Nat} {L Ea : Nat → Prop} {xb : List (Nat × AV) × List (Nat × List AV)}, Vir E Φ ops X st' N fl al Ea xb L a w G ρ seen last nid V b nm →
    ∃ L' Ea' xb' ρ' seen' nid' V' b' nm', Vir E Φ ops X st' N fl al Ea' xb' L' a w G ρ' seen' last nid' V' b' nm' ∧ AtEff ops fl Ea' ρ' ∧ ∀ j, (L' j ∨ Ea' j) ↔ (L j ∨ Ea j)
  | [], seen, nid, V, b, nm, L, Ea, xb, h => ⟨L, Ea, xb, [], seen, nid, V, b, nm, h, .inl rfl, fun _ => Iff.rfl⟩
  | (q, i) :: r, seen, nid, V, b, nm, L, Ea, xb, h => by
    obtain ⟨o, ho, hh⟩ := planOK_head h.plan
    cases hd : hard fl i o with
    | true =>
      by_cases hE : Ea i
      · obtain ⟨xb', V', h'⟩ := h.alloc1 ho hE
        obtain ⟨L2, Ea2, xb2, ρ2, seen2, nid2, V2, b2, nm2, h2, h3, h4⟩ := Vir.advance h'
        refine ⟨L2, Ea2, xb2, ρ2, seen2, nid2, V2, b2, nm2, h2, h3, fun j => (h4 j).trans ?_⟩
        constructor
        · rintro ((h5 | h5) | h5)
          · exact .inl h5
          · rw [h5]; exact .inr hE
          · exact .inr h5.1
        · rintro (h5 | h5)
          · exact .inl (.inl h5)
          · by_cases e : j = i
            · exact .inl (.inr e)
            · exact .inr ⟨h5, e⟩
      · exact ⟨_, _, _, _, _, _, _, _, _, h, .inr ⟨q, i, r, o, rfl, ho, hd, hE⟩, fun _ => Iff.rfl⟩
    | false =>
      cases he : isEff o.op with
      | true =>
        cases hli : isLit o with
        | true =>
          obtain ⟨V', nm', h'⟩ := h.lit1 ho he hd hli
          exact Vir.advance h'
        | false =>
          obtain ⟨V', b', nm', h'⟩ := h.call1 ho he hd hli
          exact Vir.advance h'
      | false =>
        obtain ⟨V', b', h'⟩ := h.pure1 ho he
        exact Vir.advance h'
end
end
end Go.Proofs.Ytggkeechdakccaa.Flat
