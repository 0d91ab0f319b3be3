/-
A region, in the order that is written.
-/
import Derived.Test.YtgckhjcfcandmaaFlatU
set_option linter.unusedVariables false
set_option linter.unusedSimpArgs false
namespace Go.Proofs.Ytgckhjcfcandmaa.Flat
section
variable {E : Env} {Φ : Phi} {st st' : St} {a : Act} {w : World} {G : Gh} {X F : Nat → Prop} {nid : Nat} {o : Oper}

theorem bool_of_rv {w : World} {G : Gh} {t : Bool} {x : Value} (h : RV w G (.bool t) x) : x = .bool t := by
  cases h with
  | ro h => cases h; rfl

theorem look_bool {tmps : Array Value} {d : Nat} {t : Bool} (h : tmps.getD d undef = .bool t) : tmps[d]? = some (.bool t) := by
  rw [Array.getD_eq_getD_getElem?] at h
  cases hq : tmps[d]? with
  | none => rw [hq] at h; simp [undef] at h
  | some x => rw [hq] at h; simpa using h

theorem wanted_ok {ops : Array Oper} {t : Bool} (h : Rel st a w G X F) (hw : wanted ops.toList o st = some t) : Region.wanted o (yielded ops a.tmps) = t := by
  unfold wanted at hw
  unfold Region.wanted
  split at hw
  · rename_i hg
    simp only [hg]
    exact Option.some.inj hw
  · rename_i j b hg
    simp only [hg]
    split at hw
    · rename_i d hd
      split at hw
      · rename_i t' ht
        have h1 := h.slot d
        rw [ht] at h1
        have h2 := look_bool (bool_of_rv h1)
        simp only [Array.getElem?_toList] at hd
        simp only [yielded, hd, Option.bind_some, h2]
        rw [← Option.some.inj hw]
        cases t' <;> cases b <;> rfl
      · simp at hw
    · simp at hw

theorem Rel.setNx (h : Rel st a w G X F) (n : Nat) : Rel { st with nx := n } a w G X F := ⟨h.size, h.defers, h.slot, h.box, h.inv, h.free⟩

/-- What holds behind code. -/
def Behind (w : World) (G : Gh) (X : Nat → Prop) (st' : St) (a' : Act) (w' : World) : Prop :=
  ∃ G', Step false w w' G G' X ∧ Rel st' a' w' G' X (fun i => st'.nx ≤ i)

theorem evOps_ok {ops : Array Oper} (hΦ : PhiOK E Φ) (hkill : ∀ n, E.kill n = false) (hmd : ∀ n, (E.md n).all (· == .ro) = true) {Q : Exit → Act → World → Prop} :
    ∀ (l : List Oper) (nid : Nat) (st : St) (a : Act) (w : World) (G : Gh), Rel st a w G X (fun i => nid ≤ i) → (∀ b, w.heap.size ≤ b → X b) → evOps E Φ ops.toList nid l st = some st' →
      (∀ a' w' G', Step false w w' G G' X → Rel st' a' w' G' X (fun i => nid + 8 * l.length ≤ i) → Q .normal a' w') → wpList E.P ops Q l a w
  | [], nid, st, a, w, G, h, hX, he, hQ => by
    simp only [evOps, Option.some.injEq] at he
    subst he
    exact hQ a w G (Step.refl _ _ _ _) (h.weaken fun i hi => by simpa using hi)
  | o :: r, nid, st, a, w, G, h, hX, he, hQ => by
    simp only [evOps] at he
    obtain ⟨t, hw, he⟩ := Option.bind_eq_some_iff.1 he
    refine wpList_step fun K hK => ?_
    rw [wanted_ok h hw]
    have hlen : ∀ i, nid + 8 * (o :: r).length ≤ i → nid + 8 + 8 * r.length ≤ i := fun i hi => by simp only [List.length_cons] at hi; omega
    cases t with
    | true =>
      simp only [if_true] at he ⊢
      obtain ⟨st1, h1, he⟩ := Option.bind_eq_some_iff.1 he
      refine (evOp_ok h hX (fun i h1 _ => h1) hΦ hkill hmd h1).wp ?_
      rintro v w' ⟨G', hs, hr⟩
      refine hK _ _ (evOps_ok hΦ hkill hmd r (nid + 8) st1 _ w' G' (hr.weaken fun i hi => ⟨by omega, by omega⟩) (fun b hb => hX b (Nat.le_trans hs.size hb)) he ?_)
      intro a' w2 G2 hs2 hr2
      exact hQ a' w2 G2 (hs.trans hs2) (hr2.weaken hlen)
    | false =>
      simp only [Bool.false_eq_true, if_false] at he ⊢
      obtain ⟨st1, h1, he⟩ := Option.bind_eq_some_iff.1 he
      refine hK _ _ (evOps_ok hΦ hkill hmd r (nid + 8) st1 _ w G (((h.put (rvUndef undef) h1).1).weaken fun i hi => by omega) hX he ?_)
      intro a' w2 G2 hs2 hr2
      exact hQ a' w2 G2 hs2 (hr2.weaken hlen)

end
end Go.Proofs.Ytgckhjcfcandmaa.Flat
