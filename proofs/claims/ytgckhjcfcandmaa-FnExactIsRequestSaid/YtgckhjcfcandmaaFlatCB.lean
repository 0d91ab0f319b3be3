/-
A law that the evaluator finds true is true.
-/
import Derived.Test.YtgckhjcfcandmaaFlatCA
import Derived.Below
set_option linter.unusedVariables false
set_option linter.unusedSimpArgs false
namespace Go.Proofs.Ytgckhjcfcandmaa.Flat
open Go.ChangeShapes Go.WideShapes Go.RowKit

theorem handed {H : Type} {enc : TypeId × Value → H} {P : Program} {w : World} {spare : Nat → Bool} {held : Bool} {r : Reach} {b0 n : Nat} {t : TypeId} {v : Value} {d : DataW H} {p : List MemPlace} (ho : okTy P n t = true)
    (hv : Value.okWide P w r b0 t v) (h : DataW.Trod enc P w 0 spare held t v d p) (hw : (d.weights P t).all (· ≤ reachBytes) = true) : ∃ a, Typed P n t a ∧ RO w (old w) a v := by
  obtain ⟨m, hm⟩ := h
  obtain ⟨a, ha, hl, hc, hr⟩ := tells n t m _ _ ho hm hw
  refine ⟨a, ha, ?_⟩
  have one : ∀ {u : Value}, a.cells = [a] → v = u → u.cells.toList = [u] → RO w (old w) a v := by
    intro u h1 h2 h3
    subst h2
    have := hr 0 (by rw [h1]; simp)
    rw [h3] at this
    simpa only [h1, List.getElem_cons_zero, List.getD_cons_zero] using this
  cases n with
  | zero => simp [okTy] at ho
  | succ n =>
    simp only [Typed] at ha
    split at ha
    · rename_i hu
      obtain ⟨b, rfl⟩ := ha
      obtain ⟨c, rfl⟩ := okWide_bool hu hv
      exact one rfl rfl rfl
    · rename_i k hu
      obtain ⟨z, rfl, _⟩ := ha
      obtain ⟨c, rfl⟩ := okWide_int hu hv
      exact one rfl rfl rfl
    · rename_i hu
      obtain ⟨s, rfl, _⟩ := ha
      obtain ⟨c, rfl⟩ := okWide_string hu hv
      exact one rfl rfl rfl
    · rename_i e hu
      obtain ⟨xs, rfl, _⟩ := ha
      obtain ⟨ad, len, cap, rfl⟩ := okWide_slice hu hv
      exact one rfl rfl rfl
    · rename_i fs hu
      obtain ⟨as, rfl, _⟩ := ha
      obtain ⟨cs, rfl, _⟩ := okWide_struct hu hv
      refine .agg _ _ cs (by simpa [AV.cells, Value.cells] using hl.symm) fun j hj => ?_
      have := hr j hj
      rw [Array.getD_eq_getD_getElem?, ← Array.getElem?_toList, ← List.getD_eq_getElem?_getD]
      exact this
    · exact ha.elim

theorem law_ok {E : Env} {ext : Nat → Option (List AV → List (List AV) → Option (AV × List (List AV)))} (hm : E.P.follows .mixedOrders = true) (hS : Sound E) (hkill : ∀ n, E.kill n = false) (hmd : ∀ n, (E.md n).all (· == .ro) = true)
    (hext : ∀ f g, ext f = some g → ∀ args ios ret fin, g args ios = some (ret, fin) → Enters E.P f ∧ (ios = [] → CallOK false E.P (E.md f) f args ios ret fin))
    {k f : Nat} {as : List AV} {args : Array Value} {W : World} {b : Bool} (hrun : run E ext k f as [] = some (.bool b, [])) (hl : args.size = as.length) (hr : ∀ j (h : j < as.length), RO W (old W) as[j] (args.getD j undef)) :
    Calls E.P f args W fun e W' => e = .returned (.bool b) ∧ Below W.heap.size W W' := by
  have hc := (run_ok hm hS hkill hmd hext k _ _ _ _ _ hrun).2 rfl W (Gh.lent W.heap.size (old W)) (fun _ => False) args hl (fun j hj => .ro (hr j hj))
    (Inv.lent (G := Gh.lent W.heap.size (old W)) (Nat.le_refl _) (fun fl b o hs => ⟨hs.2, fun _ => hs.2, fun e => by rw [hs.1] at e; simp at e⟩)) (fun id cs hcs => by simp [numbered, look] at hcs) (fun _ _ => ⟨fun h => h, rfl⟩) (fun _ _ => rfl)
  refine hc.mono ?_
  rintro e W' ⟨v, G', rfl, hs, _, hv, _⟩
  rw [bool_of_rv hv]
  exact ⟨rfl, hs.os, hs.tape, hs.output, hs.size, fun q hq => hs.block q hq (by simp; omega)⟩
end Go.Proofs.Ytgckhjcfcandmaa.Flat
