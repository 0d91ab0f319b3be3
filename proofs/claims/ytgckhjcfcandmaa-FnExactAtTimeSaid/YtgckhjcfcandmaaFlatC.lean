/-
What it means that an abstract value stands for a value of the machine.
-/
import Derived.Test.YtgckhjcfcandmaaFlatB
set_option linter.unusedVariables false
set_option linter.unusedSimpArgs false
namespace Go.Proofs.Ytgckhjcfcandmaa.Flat

def flat (xs : List AV) : List AV := xs.flatMap AV.cells
theorem flat_nil : flat [] = [] := rfl
theorem flat_cons (x : AV) (xs : List AV) : flat (x :: xs) = x.cells ++ flat xs := rfl
theorem flat_append (xs ys : List AV) : flat (xs ++ ys) = flat xs ++ flat ys := by simp [flat]
theorem flat_length {xs : List AV} {sz : Nat} (h : ∀ x ∈ xs, x.cells.length = sz) : (flat xs).length = xs.length * sz := by
  induction xs with
  | nil => simp [flat]
  | cons x xs ih =>
    rw [flat_cons, List.length_append, h x (by simp), ih (fun y hy => h y (by simp [hy])), List.length_cons, Nat.add_mul, Nat.one_mul, Nat.add_comm]
theorem flat_at {xs : List AV} {sz : Nat} (h : ∀ x ∈ xs, x.cells.length = sz) (i j : Nat) (x : AV) (hx : xs[i]? = some x) (hj : j < sz) : (flat xs)[i * sz + j]? = x.cells[j]? := by
  induction xs generalizing i with
  | nil => simp at hx
  | cons y ys ih =>
    cases i with
    | zero =>
      obtain rfl : y = x := by simpa using hx
      rw [flat_cons, Nat.zero_mul, Nat.zero_add, List.getElem?_append_left (by rw [h y (by simp)]; exact hj)]
    | succ i =>
      have hy := h y (by simp)
      rw [flat_cons, List.getElem?_append_right (by rw [hy, Nat.add_mul]; omega), hy]
      have e : (i + 1) * sz + j - sz = i * sz + j := by rw [Nat.add_mul]; omega
      rw [e]
      exact ih (fun z hz => h z (by simp [hz])) i (by simpa using hx)

theorem add_eq {ad : Addr} (h : ad.spot = none) (j : Nat) : ad.add j = ⟨ad.block, ad.off + j, none⟩ := by
  cases ad
  simp only at h
  subst h
  unfold Addr.add
  split
  · rename_i h; subst h; rfl
  · rfl

abbrev Cells := Bool → Nat → Nat → Prop

/-- What is told as not made by us leads to nothing that we made. -/
def sub (fl : Bool) (S : Cells) : Cells := fun g b o => (fl = true ∨ g = false) ∧ S g b o
theorem sub_le {fl : Bool} {S : Cells} (g : Bool) (b o : Nat) (h : sub fl S g b o) : S g b o := h.2
/-- Read: what leads to memory leads to cells in S. -/
inductive RO (w : World) : Cells → AV → Value → Prop
  | undef (S : Cells) (v : Value) : RO w S .undef v
  | int (S : Cells) (k : IntKind) (n : Int) : RO w S (.int k n) (.int k n)
  | bool (S : Cells) (b : Bool) : RO w S (.bool b) (.bool b)
  | str (S : Cells) (s : ByteArray) : RO w S (.str s) (.string s)
  | slNil (S : Cells) (fl : Bool) (A : Option Addr) (c : Nat) (h : A = none → c = 0) : RO w S (.sl fl []) (.slice A 0 c)
  | sl (S : Cells) (fl : Bool) (xs : List AV) (ad : Addr) (c sz : Nat) (cv : Nat → Value) (hne : xs ≠ []) (hc : xs.length ≤ c) (hsp : ad.spot = none)
      (hsz : ∀ x ∈ xs, x.cells.length = sz) (hcell : ∀ y ∈ flat xs, y.isCell = true)
      (hS : ∀ j, j < xs.length * sz → S fl ad.block (ad.off + j) ∧ w.cell? (ad.add j) = some (cv j))
      (hr : ∀ j (h : j < (flat xs).length), RO w (sub fl S) (flat xs)[j] (cv j)) : RO w S (.sl fl xs) (.slice (some ad) xs.length c)
  | cptr (S : Cells) (cs : List AV) (ad : Addr) (cv : Nat → Value) (hsp : ad.spot = none) (hS : ∀ j, j < cs.length → (∃ fl, S fl ad.block (ad.off + j)) ∧ w.cell? (ad.add j) = some (cv j))
      (hr : ∀ j (h : j < cs.length), RO w S cs[j] (cv j)) : RO w S (.cptr cs) (.pointer (some ad))
  | agg (S : Cells) (cs : List AV) (vs : Array Value) (hl : vs.size = cs.length) (hr : ∀ j (h : j < cs.length), RO w S cs[j] (vs.getD j undef)) : RO w S (.agg cs) (.agg vs)
  | tup (S : Cells) (cs : List AV) (vs : Array Value) (hl : vs.size = cs.length) (hr : ∀ j (h : j < cs.length), RO w S cs[j] (vs.getD j undef)) : RO w S (.tup cs) (.tuple vs)
  | clo (S : Cells) (f : Nat) (cs : List AV) (vs : Array Value) (hl : vs.size = cs.length) (hr : ∀ j (h : j < cs.length), RO w S cs[j] (vs.getD j undef)) : RO w S (.clo f cs) (.func (.func f) #[] vs)

theorem RO.mono {w w' : World} {S : Cells} {a : AV} {v : Value} (h : RO w S a v) : ∀ {S' : Cells}, (∀ fl b o, S fl b o → S' fl b o) →
    (∀ fl b o, S fl b o → w'.cell? ⟨b, o, none⟩ = w.cell? ⟨b, o, none⟩) → RO w' S' a v := by
  induction h with
  | undef S v => exact fun _ _ => .undef _ v
  | int S k n => exact fun _ _ => .int _ k n
  | bool S b => exact fun _ _ => .bool _ b
  | str S s => exact fun _ _ => .str _ s
  | slNil S fl A c h => exact fun _ _ => .slNil _ fl A c h
  | sl S fl xs ad c sz cv hne hcap hsp hsz hcell hs hr ih =>
    intro S' hS hw
    refine .sl _ fl xs ad c sz cv hne hcap hsp hsz hcell (fun j hj => ⟨hS _ _ _ (hs j hj).1, ?_⟩) (fun j hj => ih j hj (fun g b o hg => ⟨hg.1, hS _ _ _ hg.2⟩) (fun g b o hg => hw _ _ _ hg.2))
    rw [add_eq hsp, hw _ _ _ (hs j hj).1, ← add_eq hsp]
    exact (hs j hj).2
  | cptr S cs ad cv hsp hs hr ih =>
    intro S' hS hw
    refine .cptr _ cs ad cv hsp (fun j hj => ?_) (fun j hj => ih j hj hS hw)
    obtain ⟨⟨fl, h1⟩, h2⟩ := hs j hj
    refine ⟨⟨fl, hS _ _ _ h1⟩, ?_⟩
    rw [add_eq hsp, hw _ _ _ h1, ← add_eq hsp]
    exact h2
  | agg S cs vs hl hr ih => exact fun hS hw => .agg _ cs vs hl (fun j hj => ih j hj hS hw)
  | tup S cs vs hl hr ih => exact fun hS hw => .tup _ cs vs hl (fun j hj => ih j hj hS hw)
  | clo S f cs vs hl hr ih => exact fun hS hw => .clo _ f cs vs hl (fun j hj => ih j hj hS hw)

theorem AV.mapOs_eq (f : Nat → Bool → Nat → Nat → List AV → AV) (g : Nat → Nat → AV) (h : Nat → Bool → Nat → Nat → List AV → Nat → Nat → AV) (z : Unit → AV) (cs : List AV) :
    AV.mapOs f g h z cs = cs.map (AV.mapO f g h z) := by
  induction cs with
  | nil => rfl
  | cons x xs ih => simp only [AV.mapOs, List.map_cons, ih]

theorem map_id_of {cs : List AV} {F : AV → AV} (h : ∀ j (hj : j < cs.length), F cs[j] = cs[j]) : cs.map F = cs := by
  apply List.ext_getElem (by simp)
  intro i h1 h2
  rw [List.getElem_map]
  exact h i h2

theorem RO.mapO_eq {w : World} {S : Cells} {f : Nat → Bool → Nat → Nat → List AV → AV} {g : Nat → Nat → AV} {h : Nat → Bool → Nat → Nat → List AV → Nat → Nat → AV} {z : Unit → AV}
    {a : AV} {v : Value} (hr : RO w S a v) : a.mapO f g h z = a := by
  induction hr with
  | agg S cs vs hl hr ih => rw [AV.mapO, AV.mapOs_eq, map_id_of ih]
  | tup S cs vs hl hr ih => rw [AV.mapO, AV.mapOs_eq, map_id_of ih]
  | clo S f cs vs hl hr ih => rw [AV.mapO, AV.mapOs_eq, map_id_of ih]
  | _ => rfl

/-- A value of one cell is one cell. -/
theorem RO.one {w : World} {S : Cells} {a : AV} {v : Value} (h : RO w S a v) (hc : a.isCell = true) : v.oneCell' = true := by
  cases h <;> first | rfl | simp [AV.isCell] at hc

/-- What is known beside the world: which blocks and headers the names stand for, and which cells stay as they are. -/
structure Gh where
  nb : Nat
  S : Cells
  μ : Nat → Option Nat
  ρ : Nat → Value
  lim : Nat → Nat
  al : Nat → Prop

/-- Row id, its elements. -/
def RowOK (w : World) (G : Gh) (id : Nat) (fz : Bool) (e sz : Nat) (xs : List AV) : Prop :=
  G.al id ∧ G.lim id ≤ (if fz then xs.length * sz else 0) ∧ (∀ x ∈ xs, x.cells.length = sz) ∧ (∀ y ∈ flat xs, y.isCell = true) ∧
  ∃ inner : List Value, w.ownsRow 0 e sz (G.ρ id) xs.length inner ∧ ∀ j (h : j < (flat xs).length), RO w G.S (flat xs)[j] (inner.getD j undef)

inductive RV (w : World) (G : Gh) : AV → Value → Prop
  | ro {a : AV} {v : Value} (h : RO w G.S a v) : RV w G a v
  | nils : RV w G .nils (.slice none 0 0)
  | own (id : Nat) (fz : Bool) (e sz : Nat) (xs : List AV) (h : RowOK w G id fz e sz xs) : RV w G (.own id fz e sz xs) (G.ρ id)
  | ptr (id off b : Nat) (h : G.μ id = some b) : RV w G (.ptr id off) (.pointer (some ⟨b, off, none⟩))
  | eptr (id : Nat) (fz : Bool) (e sz : Nat) (xs : List AV) (i off : Nat) (ad : Addr) (n c : Nat) (h : RowOK w G id fz e sz xs) (hρ : G.ρ id = .slice (some ad) n c) :
      RV w G (.eptr id fz e sz xs i off) (.pointer (some (ad.add (i * sz + off))))
  | agg (cs : List AV) (vs : Array Value) (hl : vs.size = cs.length) (hr : ∀ j (h : j < cs.length), RV w G cs[j] (vs.getD j undef)) : RV w G (.agg cs) (.agg vs)
  | tup (cs : List AV) (vs : Array Value) (hl : vs.size = cs.length) (hr : ∀ j (h : j < cs.length), RV w G cs[j] (vs.getD j undef)) : RV w G (.tup cs) (.tuple vs)
  | clo (f : Nat) (cs : List AV) (vs : Array Value) (hl : vs.size = cs.length) (hr : ∀ j (h : j < cs.length), RV w G cs[j] (vs.getD j undef)) : RV w G (.clo f cs) (.func (.func f) #[] vs)

theorem getD_map_lt {cs : List AV} (F : AV → AV) (j : Nat) (h : j < (cs.map F).length) : (cs.map F)[j] = F (cs[j]'(by simpa using h)) := by simp

/-- Whatever is done to the names in a value. -/
theorem RV.map {w w' : World} {G G' : Gh} {f : Nat → Bool → Nat → Nat → List AV → AV} {g : Nat → Nat → AV} {h : Nat → Bool → Nat → Nat → List AV → Nat → Nat → AV} {z : Unit → AV}
    (hro : ∀ a v, RO w G.S a v → RO w' G'.S a v)
    (hown : ∀ id fz e sz xs, RowOK w G id fz e sz xs → RV w' G' (f id fz e sz xs) (G.ρ id))
    (hptr : ∀ id off b, G.μ id = some b → RV w' G' (g id off) (.pointer (some ⟨b, off, none⟩)))
    (heptr : ∀ id fz e sz xs i off ad n c, RowOK w G id fz e sz xs → G.ρ id = .slice (some ad) n c → RV w' G' (h id fz e sz xs i off) (.pointer (some (ad.add (i * sz + off)))))
    (hz : RV w' G' (z ()) (.slice none 0 0))
    {a : AV} {v : Value} (hr : RV w G a v) : RV w' G' (a.mapO f g h z) v := by
  induction hr with
  | ro hr => rw [hr.mapO_eq]; exact .ro (hro _ _ hr)
  | nils => exact hz
  | own id fz e sz xs hk => exact hown _ _ _ _ _ hk
  | ptr id off b hk => exact hptr _ _ _ hk
  | eptr id fz e sz xs i off ad n c hk hρ => exact heptr _ _ _ _ _ _ _ _ _ _ hk hρ
  | agg cs vs hl hr ih => rw [AV.mapO, AV.mapOs_eq]; exact .agg _ _ (by simpa using hl) fun j hj => by rw [getD_map_lt]; exact ih j (by simpa using hj)
  | tup cs vs hl hr ih => rw [AV.mapO, AV.mapOs_eq]; exact .tup _ _ (by simpa using hl) fun j hj => by rw [getD_map_lt]; exact ih j (by simpa using hj)
  | clo n cs vs hl hr ih => rw [AV.mapO, AV.mapOs_eq]; exact .clo _ _ _ (by simpa using hl) fun j hj => by rw [getD_map_lt]; exact ih j (by simpa using hj)

/-- The invariant of a world: who owns which block. X: the blocks that this call may write. -/
structure Inv (w : World) (G : Gh) (X : Nat → Prop) : Prop where
  nb : G.nb ≤ w.heap.size
  row : ∀ i g, G.al i → (G.ρ i).ownBlock = some g → X g ∧ g < w.heap.size ∧ G.nb ≤ g
  box : ∀ i b, G.μ i = some b → X b ∧ b < w.heap.size ∧ G.nb ≤ b
  rows : ∀ i j g, G.al i → G.al j → i ≠ j → (G.ρ i).ownBlock = some g → (G.ρ j).ownBlock ≠ some g
  boxes : ∀ i j b, G.μ i = some b → G.μ j = some b → i = j
  rowBox : ∀ i j b, G.al i → (G.ρ i).ownBlock = some b → G.μ j ≠ some b
  lt : ∀ fl b o, G.S fl b o → b < w.heap.size
  old : ∀ b o, G.S false b o → b < G.nb
  new : ∀ b o, G.S true b o → G.nb ≤ b ∧ ∃ cur e, w.heap[b]? = some (.cells cur e (0, 0))
  sBox : ∀ fl b o i, G.S fl b o → G.μ i ≠ some b
  sRow : ∀ fl b o i, G.S fl b o → G.al i → (G.ρ i).ownBlock = some b → o < G.lim i

/-- What stands in the variables. -/
def BoxOK (w : World) (G : Gh) (id : Nat) (cs : List AV) : Prop :=
  ∃ b vs T, G.μ id = some b ∧ w.heap[b]? = some (.cells vs T (0, 0)) ∧ vs.size = cs.length ∧ (∀ y ∈ cs, y.isCell = true ∨ y = .undef) ∧ (∀ v ∈ vs.toList, v.oneCell' = true) ∧
    ∀ j (h : j < cs.length), RV w G cs[j] (vs.getD j undef)

/-- All else of the outer world stays. X0: the blocks from before this call that it may write. -/
structure Frm (w0 : World) (X0 : Nat → Prop) (w : World) : Prop where
  os : w.os = w0.os
  tape : w.tape = w0.tape
  output : w.output = w0.output
  size : w0.heap.size ≤ w.heap.size
  block : ∀ b, b < w0.heap.size → ¬ X0 b → w.heap[b]? = w0.heap[b]?

theorem Frm.refl (w : World) (X0 : Nat → Prop) : Frm w X0 w := ⟨rfl, rfl, rfl, Nat.le_refl _, fun _ _ _ => rfl⟩

end Go.Proofs.Ytgckhjcfcandmaa.Flat
