/-
The operations that change nothing: what the evaluator tells of them is what the machine does.
-/
import Derived.Test.YtgckhjcfcandmaaFlatC
import Derived.WideLaws
import Derived.Laws.Cells
import Derived.Laws.Build
import Derived.Laws.StructEq
set_option linter.unusedVariables false
set_option linter.unusedSimpArgs false
namespace Go.Proofs.Ytgckhjcfcandmaa.Flat
variable {P : Program}

theorem tiOf_some {t : Nat} {ti : TI} (h : tiOf P t = some ti) : ∃ i d, P.info? t = some i ∧ P.underlying t = some d ∧
    ti = { tag := tagD d, agg := isAggD d, size := i.size, bytes := i.bytes, zero := i.zero, elem := elemD d, fields := fieldsD P d, eqs := eqsOf P t d } := by
  unfold tiOf at h
  split at h
  · rename_i i d hi hd
    exact ⟨i, d, hi, hd, by simpa using h.symm⟩
  · simp at h
theorem run_und {t : Nat} {d : TypeDesc} (h : P.underlying t = some d) (w : World) : (underlying t).run P w = .ok d w := by simp [underlying, h]
theorem run_info {t : Nat} {i : TypeInfo} (h : P.info? t = some i) (w : World) : (typeInfo t).run P w = .ok i w := by simp [typeInfo, h]
theorem run_size {t : Nat} {ti : TI} (h : tiOf P t = some ti) (w : World) : (sizeOf t).run P w = .ok ti.size w := by
  obtain ⟨i, d, hi, hd, rfl⟩ := tiOf_some h
  simp [sizeOf, run_info hi]
theorem run_agg {t : Nat} {ti : TI} (h : tiOf P t = some ti) (w : World) : (isAgg t).run P w = .ok ti.agg w := by
  obtain ⟨i, d, hi, hd, rfl⟩ := tiOf_some h
  cases d <;> simp [isAgg, run_und hd, isAggD]
theorem run_zero {t : Nat} {ti : TI} {z : Value} (h : tiOf P t = some ti) (hz : ti.zero = some z) (w : World) : (zeroValue t).run P w = .ok z w := by
  obtain ⟨i, d, hi, hd, rfl⟩ := tiOf_some h
  simp only at hz
  simp [zeroValue, run_info hi, hz]

/-- What an operation sees. -/
structure Sees (bx : Nat → Option (List AV)) (val : Operand → AV) (ρ : Operand → Value) (w : World) (G : Gh) : Prop where
  val : ∀ x, RV w G (val x) (ρ x)
  box : ∀ id cs, bx id = some cs → BoxOK w G id cs

section
variable {w : World} {G : Gh}

theorem RV.one {a : AV} {v : Value} (h : RV w G a v) (hc : a.isCell = true) : v.oneCell' = true := by
  cases h with
  | ro h => exact h.one hc
  | own id fz e sz xs h =>
    obtain ⟨_, _, _, _, inner, ho, _⟩ := h
    rcases ho.2 with ⟨h, _⟩ | ⟨g, cap, cur, h, _⟩ <;> rw [h] <;> rfl
  | agg => simp [AV.isCell] at hc
  | tup => simp [AV.isCell] at hc
  | _ => rfl

theorem drop_get {α : Type} {l : List α} {k j : Nat} (h : j < (l.drop k).length) : (l.drop k)[j] = l[k + j]'(by simp at h; omega) := by simp

/-- The cells behind an address. -/
theorem behind_ok {bx : Nat → Option (List AV)} {p : AV} {pv : Value} {cs : List AV} (hb : ∀ id cs, bx id = some cs → BoxOK w G id cs) (hp : RV w G p pv) (h : behind bx p = some cs) (hne : cs ≠ []) :
    ∃ ad : Addr, pv = .pointer (some ad) ∧ ad.spot = none ∧ ∃ cv : Nat → Value, ∀ j (hj : j < cs.length), w.cell? (ad.add j) = some (cv j) ∧ RV w G cs[j] (cv j) := by
  have hpos : 0 < cs.length := by cases cs <;> simp_all
  cases hp with
  | ro hr =>
    cases hr with
    | cptr _ cs' ad cv hsp hS hr =>
      simp only [behind, Option.some.injEq] at h
      subst h
      exact ⟨ad, rfl, hsp, cv, fun j hj => ⟨(hS j hj).2, .ro (hr j hj)⟩⟩
    | _ => simp [behind] at h
  | ptr id off b hμ =>
    simp only [behind, Option.map_eq_some_iff] at h
    obtain ⟨cs0, h0, rfl⟩ := h
    obtain ⟨b', vs, T, h1, h2, h3, _, _, h4⟩ := hb id cs0 h0
    obtain rfl : b = b' := by rw [hμ] at h1; simpa using h1
    refine ⟨⟨b, off, none⟩, rfl, rfl, fun j => vs.getD (off + j) undef, fun j hj => ?_⟩
    have hj' : off + j < cs0.length := by simp at hj; omega
    constructor
    · rw [add_eq rfl]
      simp only [World.cell?, h2]
      rw [Array.getD_eq_getD_getElem?]
      have : off + j < vs.size := by omega
      simp [this]
    · rw [drop_get hj]
      exact h4 _ hj'
  | eptr id fz e sz xs i off ad n c hk hρ =>
    simp only [behind, Option.map_eq_some_iff] at h
    obtain ⟨x, hx, rfl⟩ := h
    obtain ⟨hal, hlim, hsz, hcell, inner, ho, hr⟩ := hk
    have hil : i < xs.length := (List.getElem?_eq_some_iff.1 hx).1
    have hxm : x ∈ xs := List.mem_of_getElem? hx
    have hxl := hsz x hxm
    rw [hρ] at ho
    rcases ho.2 with ⟨h, _⟩ | ⟨g, cap, cur, h, h5, h6, h7, h8, h9, h10⟩
    · simp at h
    · simp only [Value.slice.injEq, Option.some.injEq] at h
      obtain ⟨rfl, rfl, rfl⟩ := h
      have hmul : (i + 1) * sz ≤ xs.length * sz := Nat.mul_le_mul_right _ hil
      rw [Nat.add_mul, Nat.one_mul] at hmul
      refine ⟨_, rfl, ?_, fun j => inner.getD (i * sz + off + j) undef, fun j hj => ?_⟩
      · rw [add_eq (ad := ⟨g, 0, none⟩) rfl]
      · have hj' : off + j < sz := by simp at hj; omega
        have hlt : i * sz + off + j < xs.length * sz := by omega
        have hcl := World.ownsRow.cellAt ho (i * sz + off + j) hlt
        constructor
        · rw [add_eq (ad := ⟨g, 0, none⟩) rfl, add_eq rfl]
          simp only [Nat.zero_add]
          rw [hcl]
          have : i * sz + off + j < inner.length := by rw [ho.1]; exact hlt
          simp [List.getD_eq_getElem?_getD, this]
        · have hfl : (flat xs).length = xs.length * sz := flat_length hsz
          have h11 := hr (i * sz + off + j) (by rw [hfl]; exact hlt)
          have h12 := flat_at hsz i (off + j) x hx hj'
          rw [drop_get hj]
          have e : (flat xs)[i * sz + off + j]'(by rw [hfl]; exact hlt) = x.cells[off + j]'(by omega) := by
            have : (flat xs)[i * sz + off + j]? = x.cells[off + j]? := by rw [← h12]; congr 1; omega
            rw [List.getElem?_eq_getElem (by rw [hfl]; exact hlt), List.getElem?_eq_getElem (by omega)] at this
            simpa using this
          rw [← e]
          exact .ro h11
  | _ => simp [behind] at h

theorem list_range_getD (n : Nat) (f : Nat → Value) (j : Nat) (h : j < n) : (List.toArray (List.map f (List.range n))).getD j undef = f j := by
  simp [Array.getD_eq_getD_getElem?, h]

theorem evLoad_ok {bx : Nat → Option (List AV)} {t : Nat} {p a : AV} {pv : Value} (hb : ∀ id cs, bx id = some cs → BoxOK w G id cs) (hp : RV w G p pv) (h : evLoad P bx t p = some a) :
    ∃ v, (Instr.loadAt t pv).run P w = .ok v w ∧ RV w G a v := by
  unfold evLoad at h
  obtain ⟨ti, hti, h⟩ := Option.bind_eq_some_iff.1 h
  obtain ⟨cs, hcs, h⟩ := Option.bind_eq_some_iff.1 h
  unfold takeVal at h
  by_cases hagg : ti.agg = true
  · rw [if_pos hagg] at h
    split at h
    · rename_i hn
      obtain rfl := Option.some.inj h
      by_cases h0 : ti.size = 0
      · -- nothing is loaded
        obtain ⟨ad, rfl⟩ : ∃ ad, pv = .pointer (some ad) := by
          cases hp with
          | ro hr => cases hr with
            | cptr => exact ⟨_, rfl⟩
            | _ => simp [behind] at hcs
          | ptr => exact ⟨_, rfl⟩
          | eptr => exact ⟨_, rfl⟩
          | _ => simp [behind] at hcs
        refine ⟨.agg #[], ?_, ?_⟩
        · have := run_loadCells (P := P) w ad 0 (fun _ => undef) (fun j hj => by omega)
          simp [Instr.loadAt, Instr.sureAddr, loadVar, run_agg hti, run_size hti, hagg, h0, this]
        · rw [h0]; exact .agg _ _ (by simp) (fun j hj => by simp at hj)
      · have hne : cs ≠ [] := by intro e; subst e; simp at hn; omega
        obtain ⟨ad, rfl, hsp, cv, hcv⟩ := behind_ok hb hp hcs hne
        have hl := run_loadCells (P := P) w ad ti.size cv (fun j hj => (hcv j (by omega)).1)
        refine ⟨_, by simp [Instr.loadAt, Instr.sureAddr, loadVar, run_agg hti, run_size hti, hagg, hl]; rfl, ?_⟩
        refine .agg _ _ (by simp; omega) (fun j hj => ?_)
        rw [list_range_getD _ _ _ (by simp at hj; omega)]
        have := (hcv j (by simp at hj; omega)).2
        simpa using this
    · simp at h
  · have hagg' : ti.agg = false := by simpa using hagg
    rw [if_neg hagg] at h
    cases cs with
    | nil => simp at h
    | cons c cs =>
      obtain ⟨ad, rfl, hsp, cv, hcv⟩ := behind_ok hb hp hcs (by simp)
      obtain rfl : c = a := by simpa using h
      have h0 := hcv 0 (by simp)
      rw [add_eq hsp] at h0
      have hcell : w.cell? ad = some (cv 0) := by
        have := h0.1
        cases ad
        simp only at hsp
        subst hsp
        exact this
      refine ⟨cv 0, ?_, by simpa using h0.2⟩
      simp [Instr.loadAt, Instr.sureAddr, loadVar, run_agg hti, hagg', run_load, hcell]
end

end Go.Proofs.Ytgckhjcfcandmaa.Flat
