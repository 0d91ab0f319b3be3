/-
A region whose order the machine may choose.
-/
import Derived.Test.YtgckhjcfcandmaaFlatV
import Derived.Orders
set_option linter.unusedVariables false
set_option linter.unusedSimpArgs false
namespace Go.Proofs.Ytgckhjcfcandmaa.Flat
section
variable {E : Env} {Φ : Phi} {o : Oper}

def tmpsOf (op : Op) : List Nat := op.operands.toList.filterMap fun | .tmp t => some t | _ => none

theorem val_congr {V V' : St} {op : Op} (h : ∀ t ∈ tmpsOf op, V'.get t = V.get t) : ∀ x ∈ op.operands.toList, V'.val x = V.val x := by
  intro x hx
  cases x with
  | tmp t => exact h t (List.mem_filterMap.2 ⟨.tmp t, hx, rfl⟩)
  | _ => rfl

theorem behind_mono {bx bx' : Nat → Option (List AV)} (hb : ∀ id cs, bx id = some cs → bx' id = some cs) {p : AV} {cs : List AV} (h : behind bx p = some cs) : behind bx' p = some cs := by
  cases p with
  | ptr id off =>
    simp only [behind] at h ⊢
    obtain ⟨ds, h1, h2⟩ := Option.map_eq_some_iff.1 h
    exact Option.map_eq_some_iff.2 ⟨ds, hb _ _ h1, h2⟩
  | _ => exact h

theorem evFree_congr {bx bx' : Nat → Option (List AV)} {n n' : Nat} {val val' : Operand → AV} {op : Op} {r : AV × List Nat} (hc : isCallV op = false) (hb : ∀ id cs, bx id = some cs → bx' id = some cs)
    (hv : ∀ x ∈ op.operands.toList, val' x = val x) (h : evFree E Φ bx n val op = some r) : evFree E Φ bx' n' val' op = some r := by
  have hopt : ∀ (lo : Option Operand), (∀ x ∈ lo, val' x = val x) → optAV val' lo = optAV val lo := by
    intro lo hlo
    cases lo with
    | none => rfl
    | some x => simp only [optAV]; rw [hlo x rfl]
  cases op <;> simp only [Op.operands] at hv <;> try (exact h)
  case load t p =>
    simp only [evFree] at h ⊢
    rw [hv p (by simp)]
    obtain ⟨v, h1, h2⟩ := Option.map_eq_some_iff.1 h
    refine Option.map_eq_some_iff.2 ⟨v, ?_, h2⟩
    unfold evLoad at h1 ⊢
    obtain ⟨ti, h3, h4⟩ := Option.bind_eq_some_iff.1 h1
    obtain ⟨cs, h5, h6⟩ := Option.bind_eq_some_iff.1 h4
    exact Option.bind_eq_some_iff.2 ⟨ti, h3, Option.bind_eq_some_iff.2 ⟨cs, behind_mono hb h5, h6⟩⟩
  case build t ps =>
    simp only [evFree] at h ⊢
    have : (ps.toList.map fun p => (p.1, val' p.2)) = ps.toList.map fun p => (p.1, val p.2) := List.map_congr_left fun p hp => by rw [hv p.2 (by simpa using ⟨p.1, by simpa using hp⟩)]
    rw [this]; exact h
  case slice t x lo hi mx =>
    cases mx with
    | some m => simp [evFree] at h
    | none =>
      simp only [evFree] at h ⊢
      rw [hv x (by simp), hopt lo (fun y hy => hv y (by simp at hy; subst hy; simp)), hopt hi (fun y hy => hv y (by simp at hy; subst hy; simp))]
      exact h
  case makeFunc f first cs =>
    cases f with
    | func f =>
      simp only [evFree] at h ⊢
      have : cs.toList.map val' = cs.toList.map val := List.map_congr_left fun p hp => hv p (by simp at hp ⊢; exact .inr hp)
      rw [this]; exact h
    | _ => simp [evFree] at h
  case call c =>
    obtain ⟨callee, args, ats⟩ := c
    simp only [Call.operands] at hv
    have hargs : args.toList.map val' = args.toList.map val := List.map_congr_left fun p hp => hv p (by simp at hp ⊢; exact .inr hp)
    cases callee with
    | value f => simp [isCallV] at hc
    | invoke => simp [evFree] at h
    | builtin b =>
      cases b <;> first | (simp [evFree] at h; done) | skip
      · simp only [evFree] at h ⊢
        cases ha : args.toList with
        | nil => rw [ha] at h; simp at h
        | cons x r =>
          cases r with
          | nil =>
            have hx : val' x = val x := hv x (by have : x ∈ args.toList := by rw [ha]; simp
                                                 simp only [Array.toList_append, List.mem_append]; exact .inr this)
            rw [ha] at h
            cases hq : ats[0]? with
            | none => simp [hq] at h
            | some t =>
              simp only [hq] at h ⊢
              rw [hx]; exact h
          | cons y r => rw [ha] at h; simp at h
      all_goals
        simp only [evFree] at h ⊢
        rw [hargs]; exact h
  all_goals
    simp only [evFree] at h ⊢
    simp_all
end
end Go.Proofs.Ytgckhjcfcandmaa.Flat
