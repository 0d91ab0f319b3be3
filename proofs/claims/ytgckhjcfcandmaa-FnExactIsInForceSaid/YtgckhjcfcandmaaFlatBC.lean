/-
Code, bodies, calls.
-/
import Derived.Test.YtgckhjcfcandmaaFlatBB
import Derived.LoopN
import Derived.Scope
set_option linter.unusedVariables false
set_option linter.unusedSimpArgs false
namespace Go.Proofs.Ytgckhjcfcandmaa.Flat
section
variable {E : Env} {Φ : Phi} {X : Nat → Prop}

theorem Rel.drawn {st : St} {a : Act} {w : World} {G : Gh} {F : Nat → Prop} (h : Rel st a w G X F) (n : Nat) : Rel st a { w with drawn := n } G X F ∧ Step false w { w with drawn := n } G G X := by
  have hk : Keep w { w with drawn := n } G G (fun _ => False) := ⟨fun _ _ _ h => h, fun _ _ _ _ => rfl, fun _ _ h => ⟨h, rfl, rfl, fun _ _ => rfl⟩, fun _ _ h => h⟩
  refine ⟨h.keep hk (fun _ _ _ => rfl) ?_ h.free, ⟨rfl, rfl, rfl, Nat.le_refl _, fun _ _ _ => rfl, rfl, fun _ _ _ _ h => h, fun _ _ _ _ _ => rfl, fun _ _ _ h => .inl h⟩⟩
  exact ⟨h.inv.nb, h.inv.row, h.inv.box, h.inv.rows, h.inv.boxes, h.inv.rowBox, h.inv.lt, h.inv.old, h.inv.new, h.inv.sBox, h.inv.sRow⟩

theorem evRegion_ok (hm : E.P.follows .mixedOrders = true) (hΦ : PhiOK E Φ) (hkill : ∀ n, E.kill n = false) (hmd : ∀ n, (E.md n).all (· == .ro) = true) {Q : Exit → Act → World → Prop} {id : Nat} {ops : Array Oper} {draw : Bool}
    {plan : List (Bool × Nat)} {st st' : St} {a : Act} {w : World} {G : Gh} (hp : draw = true → planOK ops plan [] none = true) (h : Rel st a w G X (fun i => st.nx ≤ i)) (hX : ∀ b, w.heap.size ≤ b → X b)
    (he : evRegion E Φ plan ops.toList draw st = some st') (hQ : ∀ a' w', Behind w G X st' a' w' → Q .normal a' w') : (Code.region id ops draw).wp E.P Q a w := by
  unfold evRegion at he
  cases draw with
  | false =>
    simp only [Bool.false_eq_true, if_false] at he
    obtain ⟨s2, h1, rfl⟩ := Option.map_eq_some_iff.1 he
    refine wp_region_list (evOps_ok hΦ hkill hmd ops.toList st.nx st a w G h hX h1 fun a' w' G' hs hr => ?_)
    exact hQ a' w' ⟨G', hs, hr.setNx _⟩
  | true =>
    simp only [if_true] at he
    obtain ⟨s2, h1, rfl⟩ := Option.map_eq_some_iff.1 he
    obtain ⟨hr1, hs1⟩ := h.drawn (w.drawn + 1)
    refine wp_region_any hm ?_
    have hv : Vir E Φ ops X s2 (st.nx + 8 * plan.length) (Lst (Array.replicate ops.size false)) a { w with drawn := w.drawn + 1 } G plan [] none st.nx st a := {
      plan := hp rfl
      tab := fun i l hl => by simp [look] at hl
      cov := fun i o hi => by simp [look] at hi
      topo := trivial
      Lin := fun i hi => by
        unfold Lst at hi
        rw [Array.getD_eq_getD_getElem?, Array.getElem?_replicate] at hi
        split at hi <;> simp at hi
      eff := fun i o hi => by simp [look] at hi
      closed := fun i o hi => by
        unfold Lst at hi
        rw [Array.getD_eq_getD_getElem?, Array.getElem?_replicate] at hi
        split at hi <;> simp at hi
      rel := hr1
      ev := h1
      count := rfl
      defers := rfl
      size := rfl
      agree := fun _ _ => rfl
      stab := fun i o hi => by simp [look] at hi }
    obtain ⟨ρ', seen', nid', V', b', hv', hat⟩ := hv.advance
    refine wpAny_ok hΦ hkill hmd (w0 := { w with drawn := w.drawn + 1 }) (G0 := G) (fun a' w' G' hs hr => hQ a' w' ⟨G', hs1.trans hs, hr.setNx _⟩) hX ops.size _ a _ G ρ' seen' none nid' V' b' hv' hat (by simp) ?_ (Step.refl _ _ _ _)
    exact Nat.le_trans (List.length_filter_le _ _) (by simp)

theorem Behind.trans {w w' w'' : World} {G G' : Gh} {st'' : St} {a'' : Act} (h : Step false w w' G G' X) (h' : Behind w' G' X st'' a'' w'') : Behind w G X st'' a'' w'' := by
  obtain ⟨G2, h1, h2⟩ := h'
  exact ⟨G2, h.trans h1, h2⟩

theorem ev_ok (hm : E.P.follows .mixedOrders = true) (hΦ : PhiOK E Φ) (hkill : ∀ n, E.kill n = false) (hmd : ∀ n, (E.md n).all (· == .ro) = true) {n f np : Nat} :
    ∀ (c : Code) (st st' : St) (e : Exit) (a : Act) (w : World) (G : Gh) (Q : Exit → Act → World → Prop), codeOK (E.plan f) c = true → Rel st a w G X (fun i => st.nx ≤ i) → (∀ b, w.heap.size ≤ b → X b) →
      ev E Φ n f np c st = some (e, st') → (∀ a' w', Behind w G X st' a' w' → Q e a' w') → c.wp E.P Q a w := by
  intro c
  induction c with
  | skip =>
    intro st st' e a w G Q _ h hX he hQ
    simp only [ev, Option.some.injEq, Prod.mk.injEq] at he
    obtain ⟨rfl, rfl⟩ := he
    exact wp_skip (hQ a w ⟨G, Step.refl _ _ _ _, h⟩)
  | label l =>
    intro st st' e a w G Q _ h hX he hQ
    simp only [ev, Option.some.injEq, Prod.mk.injEq] at he
    obtain ⟨rfl, rfl⟩ := he
    exact wp_label (hQ a w ⟨G, Step.refl _ _ _ _, h⟩)
  | exit id =>
    intro st st' e a w G Q _ h hX he hQ
    simp only [ev, Option.some.injEq, Prod.mk.injEq] at he
    obtain ⟨rfl, rfl⟩ := he
    exact wp_exit (hQ a w ⟨G, Step.refl _ _ _ _, h⟩)
  | ret =>
    intro st st' e a w G Q _ h hX he hQ
    simp only [ev, Option.some.injEq, Prod.mk.injEq] at he
    obtain ⟨rfl, rfl⟩ := he
    exact wp_ret (hQ a w ⟨G, Step.refl _ _ _ _, h⟩)
  | region id ops draw =>
    intro st st' e a w G Q hc h hX he hQ
    simp only [ev] at he
    obtain ⟨s2, h1, h2⟩ := Option.map_eq_some_iff.1 he
    obtain ⟨rfl, rfl⟩ := Prod.mk.inj h2
    exact evRegion_ok hm hΦ hkill hmd (fun hd => by simp only [codeOK, hd, Bool.not_true, Bool.false_or] at hc; exact hc) h hX h1 hQ
  | seq x y ihx ihy =>
    intro st st' e a w G Q hc h hX he hQ
    simp only [codeOK, Bool.and_eq_true] at hc
    simp only [ev] at he
    obtain ⟨⟨e1, s1⟩, h1, h2⟩ := Option.bind_eq_some_iff.1 he
    refine wp_seq (ihx st s1 e1 a w G _ hc.1 h hX h1 fun a' w' hb => ?_)
    obtain ⟨G', hs, hr⟩ := hb
    cases e1 with
    | normal => exact ihy s1 st' e a' w' G' Q hc.2 hr (fun b hb => hX b (Nat.le_trans hs.size hb)) h2 fun a2 w2 hb2 => hQ a2 w2 (Behind.trans hs hb2)
    | _ =>
      simp only [Option.some.injEq, Prod.mk.injEq] at h2
      obtain ⟨rfl, rfl⟩ := h2
      exact hQ a' w' ⟨G', hs, hr⟩
  | cond c x y ihx ihy =>
    intro st st' e a w G Q hc h hX he hQ
    simp only [codeOK, Bool.and_eq_true] at hc
    simp only [ev] at he
    split at he
    · rename_i b hb
      have hv := h.sees.val c
      rw [hb] at hv
      refine wp_cond (bool_of_rv hv) ?_
      cases b with
      | true => exact ihx st st' e a w G Q hc.1 h hX (by simpa using he) hQ
      | false => exact ihy st st' e a w G Q hc.2 h hX (by simpa using he) hQ
    · simp at he
  | block id c ih =>
    intro st st' e a w G Q hc h hX he hQ
    simp only [codeOK] at hc
    simp only [ev] at he
    obtain ⟨⟨e1, s1⟩, h1, h2⟩ := Option.map_eq_some_iff.1 he
    refine wp_block (ih st s1 e1 a w G _ hc h hX h1 fun a' w' hb => ?_)
    cases e1 with
    | exit j =>
      simp only at h2
      obtain ⟨rfl, rfl⟩ := Prod.mk.inj h2
      simp only [Exit.inBlock]
      split
      · rename_i hj; rw [if_pos hj] at hQ; exact hQ a' w' hb
      · rename_i hj; rw [if_neg hj] at hQ; exact hQ a' w' hb
    | _ =>
      simp only at h2
      obtain ⟨rfl, rfl⟩ := Prod.mk.inj h2
      exact hQ a' w' hb
  | scope c ih =>
    intro st st' e a w G Q hc h hX he hQ
    simp only [codeOK] at hc
    simp only [ev] at he
    obtain ⟨⟨e1, s1⟩, h1, h2⟩ := Option.bind_eq_some_iff.1 he
    refine wp_scope_straight (ih st s1 e1 a w G _ hc h hX h1 fun a' w' hb => ?_)
    cases e1 with
    | goto l => simp at h2
    | _ =>
      simp only [Option.some.injEq, Prod.mk.injEq] at h2
      obtain ⟨rfl, rfl⟩ := h2
      exact hQ a' w' hb
  | loop c ih =>
    intro st st' e a w G Q hc h hX he hQ
    simp only [codeOK] at hc
    simp only [ev] at he
    refine wp_loop_rounds n ?_
    have key : ∀ (m : Nat) (st : St) (a : Act) (w1 : World) (G1 : Gh), Rel st a w1 G1 X (fun i => st.nx ≤ i) → Step false w w1 G G1 X → iter (ev E Φ n f np c) (gc np (E.keep f (firstRegion c))) m st = some (e, st') → Code.rounds E.P c Q m a w1 := by
      intro m
      induction m with
      | zero => intro st a w1 G1 _ _ hi; simp [iter] at hi
      | succ m ihm =>
        intro st a w1 G1 hr hs hi
        simp only [iter] at hi
        obtain ⟨s1, h1, hi⟩ := Option.bind_eq_some_iff.1 hi
        obtain ⟨⟨e2, s2⟩, h2, hi⟩ := Option.bind_eq_some_iff.1 hi
        obtain ⟨G2, hs2, hr2⟩ := gc_ok hr h1
        have hs12 := hs.trans hs2
        refine ih s1 s2 e2 a w1 G2 _ hc hr2 (fun b hb => hX b (Nat.le_trans hs.size hb)) h2 fun a' w' hb => ?_
        obtain ⟨G3, hs3, hr3⟩ := hb
        cases e2 with
        | normal => exact ihm s2 a' w' G3 hr3 (hs12.trans hs3) hi
        | _ =>
          simp only [Option.some.injEq, Prod.mk.injEq] at hi
          obtain ⟨rfl, rfl⟩ := hi
          exact hQ a' w' ⟨G3, hs12.trans hs3, hr3⟩
    exact key n st a w G h (Step.refl _ _ _ _) he
  | _ =>
    intro st st' e a w G Q hc h hX he hQ
    simp [ev] at he
end
end Go.Proofs.Ytgckhjcfcandmaa.Flat
