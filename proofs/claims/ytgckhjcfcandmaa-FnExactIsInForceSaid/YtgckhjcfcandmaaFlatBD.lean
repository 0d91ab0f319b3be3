/-
What a call comes to that the evaluator tells.
-/
import Derived.Test.YtgckhjcfcandmaaFlatBC
set_option linter.unusedVariables false
set_option linter.unusedSimpArgs false
namespace Go.Proofs.Ytgckhjcfcandmaa.Flat

theorem getD_numbered {args : List AV} (i : Nat) (h : i < args.length) : (look i (numbered 0 args)).getD .undef = args[i] := by
  rw [look_numbered]
  simp [h]

section
variable {E : Env} {Φ : Phi} {X : Nat → Prop} {st : St} {a : Act} {w : World} {G : Gh} {F : Nat → Prop}

theorem ptr_of_behind {bx : Nat → Option (List AV)} {p : AV} {pv : Value} {cs : List AV} (hp : RV w G p pv) (hcs : behind bx p = some cs) : ∃ ad, pv = .pointer (some ad) := by
  cases hp with
  | ro hr => cases hr with
    | cptr => exact ⟨_, rfl⟩
    | _ => simp [behind] at hcs
  | ptr => exact ⟨_, rfl⟩
  | eptr => exact ⟨_, rfl⟩
  | _ => simp [behind] at hcs

/-- One result. -/
theorem res_ok {P : Program} {r : ResultVar} {x : AV} (h : Rel st a w G X F) (hr : resultOf P st r = some x) :
    ∃ v, RV w G x v ∧ (match r with | .tmp t => a.tmps.getD t undef = v | .cell c t => ∃ ad, a.tmps.getD c undef = .pointer (some ad) ∧ (loadVar t ad).run P w = .ok v w) := by
  cases r with
  | tmp t =>
    simp only [resultOf, Option.some.injEq] at hr
    subst hr
    exact ⟨_, h.slot t, rfl⟩
  | cell c t =>
    simp only [resultOf] at hr
    obtain ⟨v, h1, h2⟩ := evLoad_ok h.box (h.slot c) hr
    refine ⟨v, h2, ?_⟩
    unfold evLoad at hr
    obtain ⟨ti, _, hr⟩ := Option.bind_eq_some_iff.1 hr
    obtain ⟨cs, hcs, _⟩ := Option.bind_eq_some_iff.1 hr
    obtain ⟨ad, had⟩ := ptr_of_behind (h.slot c) hcs
    rw [had] at h1
    exact ⟨ad, had, by simpa [Instr.loadAt, Instr.sureAddr] using h1⟩

theorem results_ok {fn : Func} {vs : List AV} {P : Program} (h : Rel st a w G X F) (hv : resultsOf P st fn.results.toList = some vs) :
    ∃ v, (results fn a.tmps).run P w = .ok v w ∧ RV w G (tupOf vs) v := by
  have hres : ∀ l, fn.results.toList = l → fn.results = l.toArray := fun l hl => by rw [← hl]
  unfold resultsOf at hv
  split at hv
  · rename_i hl
    obtain rfl := Option.some.inj hv
    exact ⟨.tuple #[], by simp [results, hres _ hl], .tup _ _ rfl (fun j hj => by simp at hj)⟩
  · rename_i r hl
    obtain ⟨x, hx, rfl⟩ := Option.map_eq_some_iff.1 hv
    obtain ⟨v, h2, h1⟩ := res_ok h hx
    refine ⟨v, ?_, h2⟩
    have hR := hres _ hl
    cases r with
    | tmp t =>
      simp only [Array.getD_eq_getD_getElem?] at h1
      simp [results, hR, h1]
    | cell c t =>
      obtain ⟨ad, h5, h6⟩ := h1
      simp only [Array.getD_eq_getD_getElem?] at h5
      simp [results, hR, h5, asAddr, h6]
  · rename_i r s hl
    obtain ⟨x, hx, hv⟩ := Option.bind_eq_some_iff.1 hv
    obtain ⟨y, hy, rfl⟩ := Option.map_eq_some_iff.1 hv
    obtain ⟨v, h2, h1⟩ := res_ok h hx
    obtain ⟨u, h4, h3⟩ := res_ok h hy
    have hR := hres _ hl
    refine ⟨.tuple #[v, u], ?_, .tup _ _ rfl (fun j hj => ?_)⟩
    · cases r with
      | tmp t =>
        simp only [Array.getD_eq_getD_getElem?] at h1
        cases s with
        | tmp t' =>
          simp only [Array.getD_eq_getD_getElem?] at h3
          simp [results, hR, h1, h3]
        | cell c' t' =>
          obtain ⟨ad', h7, h8⟩ := h3
          simp only [Array.getD_eq_getD_getElem?] at h7
          simp [results, hR, h1, h7, asAddr, h8]
      | cell c t =>
        obtain ⟨ad, h5, h6⟩ := h1
        simp only [Array.getD_eq_getD_getElem?] at h5
        cases s with
        | tmp t' =>
          simp only [Array.getD_eq_getD_getElem?] at h3
          simp [results, hR, h5, asAddr, h6, h3]
        | cell c' t' =>
          obtain ⟨ad', h7, h8⟩ := h3
          simp only [Array.getD_eq_getD_getElem?] at h7
          simp [results, hR, h5, asAddr, h6, h7, h8]
    · rcases j with _ | _ | j
      · exact h2
      · exact h4
      · simp at hj; omega
  · rename_i t1 t2 t3 hl
    obtain rfl := Option.some.inj hv
    refine ⟨.tuple #[a.tmps.getD t1 undef, a.tmps.getD t2 undef, a.tmps.getD t3 undef], by simp [results, hres _ hl], .tup _ _ rfl (fun j hj => ?_)⟩
    rcases j with _ | _ | _ | j
    · exact h.slot t1
    · exact h.slot t2
    · exact h.slot t3
    · simp at hj; omega
  · rename_i t1 t2 t3 t4 hl
    obtain rfl := Option.some.inj hv
    refine ⟨.tuple #[a.tmps.getD t1 undef, a.tmps.getD t2 undef, a.tmps.getD t3 undef, a.tmps.getD t4 undef], by simp [results, hres _ hl], .tup _ _ rfl (fun j hj => ?_)⟩
    rcases j with _ | _ | _ | _ | j
    · exact h.slot t1
    · exact h.slot t2
    · exact h.slot t3
    · exact h.slot t4
    · simp at hj; omega
  · simp at hv

theorem mutSlots_ro {md : List Mode} (h : md.all (· == .ro) = true) : ∀ i, mutSlots i md = [] := by
  induction md with
  | nil => intro i; rfl
  | cons m r ih =>
    intro i
    simp only [List.all_cons, Bool.and_eq_true] at h
    cases m <;> simp at h
    exact ih (by simpa using h) (i + 1)

theorem finish_ok {fn : Func} {md : List Mode} {ret : AV} {fin : List (List AV)} (hmd : md.all (· == .ro) = true) (h : Rel st a w G X F) {P : Program} (hf : finish P md fn.results.toList 0 st = some (ret, fin)) :
    ∃ v G', (results fn a.tmps).run P w = .ok v w ∧ Step false w w G G' X ∧ Inv w G' X ∧ RV w G' ret v ∧ fin = [] := by
  unfold finish at hf
  obtain ⟨vs, hv, hf⟩ := Option.bind_eq_some_iff.1 hf
  simp only [boxesUpto, Option.bind_some, mutSlots_ro hmd, List.map_nil, ne_eq, not_true_eq_false, if_false, List.flatMap_nil, List.append_nil] at hf
  split at hf
  · rename_i hc
    obtain ⟨rfl, rfl⟩ := Prod.mk.inj (Option.some.inj hf)
    obtain ⟨v, hr, hx⟩ := results_ok h hv
    exact ⟨v, _, hr, Step.ren _ _ [], h.inv.ren hc.2.2.1 rfl, hx.ren (fun _ _ _ _ => rvUndef _) (fun id hid => of_decide_eq_true (List.all_eq_true.1 hc.2.2.2 id hid)), rfl⟩
  · simp at hf

/-- What must be known once of the functions that are entered. -/
def Sound (E : Env) : Prop := ∀ f, E.ok f = true → ∀ fn c, E.P.funcs[f]? = some fn → fn.body = some c → codeOK (E.plan f) c = true ∧ fn.name ≠ "runtime.NumGoroutine"

theorem body_ok (hm : E.P.follows .mixedOrders = true) (hΦ : PhiOK E Φ) (hkill : ∀ n, E.kill n = false) (hmd : ∀ n, (E.md n).all (· == .ro) = true) {n f : Nat} {args : List AV} {ret : AV} {fin : List (List AV)} {fn : Func} {c : Code}
    (hfn : E.P.funcs[f]? = some fn) (hc : fn.body = some c) (hok : codeOK (E.plan f) c = true) (hb : body E Φ n f args [] = some (ret, fin)) : CallOK false E.P (E.md f) f args [] ret fin := by
  intro w G X0 cargs hl hargs hinv _ hfree hbx
  unfold body at hb
  simp only [hfn, Option.bind_some, hc] at hb
  · obtain ⟨⟨e, st⟩, h1, h2⟩ := Option.bind_eq_some_iff.1 hb
    have hrel : Rel (start fn args []) { tmps := cargs ++ Array.replicate (fn.ntmps - cargs.size) undef, defers := [] } w G (fun b => X0 b ∨ w.heap.size ≤ b) (fun i => (start fn args []).nx ≤ i) := {
      size := by simp only [start, Array.size_append, Array.size_replicate, hl]; omega
      defers := rfl
      slot := fun i => by
        simp only [St.get, start]
        by_cases hi : i < args.length
        · rw [getD_numbered i hi]
          have := hargs i hi
          rw [Array.getD_eq_getD_getElem?] at this ⊢
          rw [Array.getElem?_append_left (by omega)]
          exact this
        · rw [look_numbered]
          simp only [Nat.zero_le, if_true, Nat.sub_zero]
          rw [List.getElem?_eq_none (by omega)]
          exact rvUndef _
      box := fun id cs hcs => by simp [St.box, start, numbered, look] at hcs
      inv := hinv
      free := fun i hi => hfree i hi }
    refine calls_of_wp hfn hc ?_
    refine ev_ok hm hΦ hkill hmd c _ st e _ w G _ hok hrel (fun b hb => .inr hb) h1 fun a' w' hbeh => ?_
    obtain ⟨G', hs, hr⟩ := hbeh
    have fini : ∀ (_ : finish E.P (E.md f) fn.results.toList 0 st = some (ret, fin)), a'.defers = [] ∧ ∃ v, (results fn a'.tmps).run E.P w' = .ok v w' ∧
        ∃ v' G2, Ending.returned v = .returned v' ∧ Step false w w' G G2 (fun b => X0 b ∨ w.heap.size ≤ b) ∧ Inv w' G2 (fun b => X0 b ∨ w.heap.size ≤ b) ∧ RV w' G2 ret v' ∧
          (∀ i, i < ([] : List (List AV)).length → G2.μ i = G.μ i) ∧ (mutSlots 0 (E.md f) = [] → fin.length = ([] : List (List AV)).length ∧ ∀ i (h : i < fin.length), BoxOK w' G2 i fin[i]) ∧
          (mutSlots 0 (E.md f) ≠ [] → fin.length = (mutSlots 0 (E.md f)).length ∧ ([] : List (List AV)) = [] ∧ ∀ i (h : i < fin.length), ∃ x, fin[i] = [x] ∧ RV w' G2 x (cargs.getD ((mutSlots 0 (E.md f)).getD i 0) undef)) := by
      intro hf
      obtain ⟨v, G2, h3, h4, h5, h6, rfl⟩ := finish_ok (hmd f) hr hf
      exact ⟨hr.defers, v, h3, v, G2, rfl, hs.trans h4, h5, h6, fun i hi => by simp at hi, fun _ => ⟨rfl, fun i hi => by simp at hi⟩, fun hne => absurd (mutSlots_ro (hmd f) 0) hne⟩
    cases e with
    | normal => exact fini h2
    | ret => exact fini h2
    | _ => simp at h2

theorem run_ok (hm : E.P.follows .mixedOrders = true) (hS : Sound E) (hkill : ∀ n, E.kill n = false) (hmd : ∀ n, (E.md n).all (· == .ro) = true) {ext : Nat → Option (List AV → List (List AV) → Option (AV × List (List AV)))}
    (hext : ∀ f g, ext f = some g → ∀ args ios ret fin, g args ios = some (ret, fin) → Enters E.P f ∧ (ios = [] → CallOK false E.P (E.md f) f args ios ret fin)) : ∀ n, PhiOK E (run E ext n)
  | 0 => fun f args ios ret fin h => by simp [run] at h
  | n + 1 => fun f args ios ret fin h => by
    simp only [run] at h
    split at h
    · rename_i g hg
      exact hext f g hg args ios ret fin h
    · split at h
      · rename_i hok
        have h0 := h
        unfold body at h0
        obtain ⟨fn, h1, h0⟩ := Option.bind_eq_some_iff.1 h0
        obtain ⟨c, h2, _⟩ := Option.bind_eq_some_iff.1 h0
        obtain ⟨h3, h4⟩ := hS f hok fn c h1 h2
        refine ⟨⟨fn, c, h1, h2, h4⟩, fun hi => ?_⟩
        subst hi
        exact body_ok hm (run_ok hm hS hkill hmd hext n) hkill hmd h1 h2 h3 h
      · simp at h
end
end Go.Proofs.Ytgckhjcfcandmaa.Flat
