/-
One operation, whatever it is.
-/
import Derived.Test.YtgckhjcfcandmaaFlatT
set_option linter.unusedVariables false
set_option linter.unusedSimpArgs false
namespace Go.Proofs.Ytgckhjcfcandmaa.Flat

/-- What an operation comes to. -/
def Yields (P : Program) (Post : Value → World → Prop) : Result Next → Prop
  | .ok (.value v) w' => Post v w'
  | .ok .skip w' => Post undef w'
  | .ok (.enter f args) w' => Calls P f args w' fun e w'' => ∃ v, e = .returned v ∧ Post v w''
  | _ => False

theorem Yields.wp {P : Program} {o : Oper} {a : Act} {w : World} {Post : Value → World → Prop} {next : Act → World → Prop} {Q : Exit → Act → World → Prop}
    (h : Yields P Post ((execOp a.eval o).run P w)) (hn : ∀ v w', Post v w' → next (a.put o.dst v) w') : o.wp P a w next Q := by
  unfold Oper.wp
  generalize (execOp a.eval o).run P w = r at h
  cases r with
  | ok n w' =>
    cases n with
    | value v => exact hn _ _ h
    | skip => exact hn _ _ h
    | enter f args =>
      refine Calls.mono h ?_
      rintro e w'' ⟨v, rfl, hp⟩
      exact hn _ _ hp
    | _ => exact h.elim
  | halt x w' => exact h.elim

theorem Yields.mono {P : Program} {Post Post' : Value → World → Prop} {r : Result Next} (h : Yields P Post r) (hp : ∀ v w', Post v w' → Post' v w') : Yields P Post' r := by
  cases r with
  | ok n w' =>
    cases n with
    | value v => exact hp _ _ h
    | skip => exact hp _ _ h
    | enter f args =>
      refine Calls.mono h ?_
      rintro e w'' ⟨v, rfl, hq⟩
      exact ⟨v, rfl, hp _ _ hq⟩
    | _ => exact h.elim
  | halt x w' => exact h.elim

/-- A function that a call enters. -/
def Enters (P : Program) (f : Nat) : Prop := ∃ fn c, P.funcs[f]? = some fn ∧ fn.body = some c ∧ fn.name ≠ "runtime.NumGoroutine"

theorem run_callFunc {P : Program} {f : Nat} (h : Enters P f) (args : Array Value) (w : World) : (callFunc f args).run P w = .ok (.enter f args) w := by
  obtain ⟨fn, c, h1, h2, h3⟩ := h
  simp [callFunc, h1, h2, h3]

/-- What we know of calls. -/
def PhiOK (E : Env) (Φ : Phi) : Prop := ∀ n args ios ret fin, Φ n args ios = some (ret, fin) → Enters E.P n ∧ (ios = [] → CallOK false E.P (E.md n) n args ios ret fin)

section
variable {E : Env} {Φ : Phi} {st st' : St} {a : Act} {w : World} {G : Gh} {X F : Nat → Prop} {nid : Nat} {o : Oper}

theorem Done.yields {F' : Nat → Prop} (h : Done false E.P o a w G X F' st') : Yields E.P (fun v w' => ∃ G', Step false w w' G G' X ∧ Rel st' (a.put o.dst v) w' G' X F') ((execOp a.eval o).run E.P w) := by
  obtain ⟨w', G', hs, ⟨v, hr, hq⟩ | ⟨hr, hq⟩⟩ := h
  · rw [hr]; exact ⟨G', hs, hq⟩
  · rw [hr]; exact ⟨G', hs, hq⟩

theorem Done.less {F1 F2 : Nat → Prop} (h : Done false E.P o a w G X F1 st') (hf : ∀ i, F2 i → F1 i) : Done false E.P o a w G X F2 st' := by
  obtain ⟨w', G', hs, hq⟩ := h
  exact ⟨w', G', hs, hq.imp (fun ⟨v, h1, h2⟩ => ⟨v, h1, h2.weaken hf⟩) (fun ⟨h1, h2⟩ => ⟨h1, h2.weaken hf⟩)⟩

theorem evCall_ok {fo : Operand} {as : Array Operand} {ats : Array TypeId} (h : Rel st a w G X F) (hX : ∀ b, w.heap.size ≤ b → X b) (hF : ∀ i, nid ≤ i → i < nid + 8 → F i) (hΦ : PhiOK E Φ)
    {n : Nat} {caps : List AV} (hop : o.op = .call { callee := .value fo, args := as, argTypes := ats }) (hfo : st.val fo = .clo n caps)
    (he : ((evRo Φ st.box nid n (as.toList.map st.val ++ caps)).bind fun (v, ids) => (st.freeze ids).put o.dst v) = some st') :
    Yields E.P (fun v w' => ∃ G', Step false w w' G G' X ∧ Rel st' (a.put o.dst v) w' G' X (fun i => F i ∧ ¬ (nid ≤ i ∧ i < nid + 8))) ((execOp a.eval o).run E.P w) := by
  obtain ⟨⟨v, ids⟩, hv, hp⟩ := Option.bind_eq_some_iff.1 he
  have hent : Enters E.P n := by
    unfold evRo at hv
    obtain ⟨⟨ret, fin⟩, hr, _⟩ := Option.bind_eq_some_iff.1 hv
    exact (hΦ _ _ _ _ _ hr).1
  have hf := h.sees.val fo
  rw [hfo] at hf
  have hclo : ∃ vs : Array Value, a.eval fo = .func (.func n) #[] vs ∧ vs.size = caps.length ∧ ∀ j (h : j < caps.length), RV w G caps[j] (vs.getD j undef) := by
    generalize a.eval fo = x at hf
    cases hf with
    | ro h => cases h with
      | clo _ _ _ vs hl hr => exact ⟨vs, rfl, hl, fun j hj => .ro (hr j hj)⟩
    | clo _ _ vs hl hr => exact ⟨vs, rfl, hl, hr⟩
  obtain ⟨vs, hvs, hl, hr⟩ := hclo
  have hrun : (execOp a.eval o).run E.P w = .ok (.enter n (as.map a.eval ++ vs)) w := by
    simp [execOp, hop, resolve, hvs, Deferred.ofValue, invoke, run_callFunc hent]
  rw [hrun]
  refine evRo_ok (k := false) h hX hF (fun args ret fin hq => (hΦ _ _ _ _ _ hq).2 rfl) (by simp [hl]) (fun j hj => ?_) hv hp |>.mono ?_
  · rw [Array.getD_eq_getD_getElem?]
    by_cases hj' : j < as.size
    · rw [List.getElem_append_left (by simpa using hj'), Array.getElem?_append_left (by simpa using hj')]
      simp only [List.getElem_map, Array.getElem_toList, Array.getElem?_map]
      rw [Array.getElem?_eq_getElem hj']
      exact h.sees.val _
    · rw [List.getElem_append_right (by simpa using hj'), Array.getElem?_append_right (by simpa using hj')]
      have hj2 : j - as.size < caps.length := by simp at hj; omega
      have := hr (j - as.size) hj2
      rw [Array.getD_eq_getD_getElem?] at this
      simpa using this
  · rintro e w' ⟨x, G', rfl, h1, h2⟩
    exact ⟨x, rfl, G', h1, h2⟩

theorem evFree_yields (h : Rel st a w G X F) (he : ((evFree E Φ st.box nid st.val o.op).bind fun (v, _) => st.put o.dst v) = some st') (hc : isCallV o.op = false) :
    Yields E.P (fun v w' => ∃ G', Step false w w' G G' X ∧ Rel st' (a.put o.dst v) w' G' X (fun i => F i ∧ ¬ (nid ≤ i ∧ i < nid + 8))) ((execOp a.eval o).run E.P w) := by
  obtain ⟨⟨v, ids⟩, hv, hp⟩ := Option.bind_eq_some_iff.1 he
  obtain ⟨_, cv, hrun, hx⟩ := evPure_ok h.sees hv hc
  rw [hrun]
  exact ⟨G, Step.refl _ _ _ _, ((h.put hx hp).1).weaken fun i hi => hi.1⟩

theorem seal_length (v : AV) : v.shutV.cells.length = v.cells.length := by
  cases v <;> simp [AV.shutV, AV.mapO, AV.cells, AV.mapOs_eq]

theorem evStore_ok {t : Nat} {p x : Operand} (h : Rel st a w G X F) (hop : o.op = .store t p x) (he : evStore E.P t (st.val p) (st.val x) o.dst st = some st') : Done false E.P o a w G X F st' := by
  unfold evStore at he
  obtain ⟨ti, hti, he⟩ := Option.bind_eq_some_iff.1 he
  split at he
  · rename_i h1
    split at he
    · rename_i id off hp
      obtain ⟨cs, hcs, he⟩ := Option.bind_eq_some_iff.1 he
      split at he
      · rename_i h2
        exact evStoreBox_ok h hop hti hp hcs h1.1 h1.2 h2 he
      · simp at he
    · rename_i id e0 sz xs i off hp
      obtain ⟨y, hy, he⟩ := Option.bind_eq_some_iff.1 he
      simp only at he
      split at he
      · rename_i h2
        refine evStoreElem_ok h hop hti hp hy h1.1 h2.1 h2.2.1 ?_ h2.2.2 he
        rw [seal_length]; exact h1.1
      · simp at he
    · simp at he
  · simp at he

theorem evOp_ok (h : Rel st a w G X F) (hX : ∀ b, w.heap.size ≤ b → X b) (hF : ∀ i, nid ≤ i → i < nid + 8 → F i) (hΦ : PhiOK E Φ) (hkill : ∀ n, E.kill n = false) (hmd : ∀ n, (E.md n).all (· == .ro) = true)
    (he : evOp E Φ nid o st = some st') :
    Yields E.P (fun v w' => ∃ G', Step false w w' G G' X ∧ Rel st' (a.put o.dst v) w' G' X (fun i => F i ∧ ¬ (nid ≤ i ∧ i < nid + 8))) ((execOp a.eval o).run E.P w) := by
  have hn : F nid := hF nid (Nat.le_refl _) (by omega)
  have hw : ∀ i, F i ∧ ¬ (nid ≤ i ∧ i < nid + 8) → F i ∧ i ≠ nid := fun i hi => ⟨hi.1, fun e => hi.2 (by omega)⟩
  unfold evOp at he
  split at he
  · rename_i t hop
    exact ((evAlloc_ok h hX hn hop he).less hw).yields
  · rename_i t x hop
    exact ((evBox_ok h hX hn hop he).less hw).yields
  · rename_i t p x hop
    exact ((evStore_ok h hop he).less fun i hi => hi.1).yields
  · rename_i t len ps hop
    exact ((evBuildSlice_ok h hX hn hop he).less hw).yields
  · rename_i t l c hop
    exact ((evMakeSlice_ok h hX hn hop he).less hw).yields
  · rename_i as ts hop
    split at he
    · rename_i s x t u has hts
      exact ((evAppend_ok h hX hn hop has hts he).less hw).yields
    · simp at he
  · rename_i f as ats hop
    split at he
    · rename_i n caps hf
      rw [hkill n, hmd n] at he
      simp only [Bool.false_eq_true, if_false, if_true] at he
      exact evCall_ok h hX hF hΦ hop hf he
    · simp at he
  · rename_i op _ _ _ _ _ _ hcall
    refine evFree_yields h he ?_
    unfold isCallV
    split
    · rename_i f as ats hop
      exact absurd hop (hcall _ _ _)
    · rfl
end
end Go.Proofs.Ytgckhjcfcandmaa.Flat
