/-
Quiet operations.
-/
import Derived.Test.YtgckhjcfcandmaaFlatW
set_option linter.unusedVariables false
set_option linter.unusedSimpArgs false
namespace Go.Proofs.Ytgckhjcfcandmaa.Flat
section
variable {E : Env} {Φ : Phi} {o : Oper} {st st' : St} {nid : Nat}

/-- One slot is written, variables are made. -/
def Quiet (st st' : St) (dst : Option Nat) : Prop := (∀ t, dst ≠ some t → st'.get t = st.get t) ∧ (∀ id cs, st.box id = some cs → st'.box id = some cs)

theorem put_quiet {dst : Option Nat} {v : AV} (h : st.put dst v = some st') : Quiet st st' dst := by
  unfold St.put at h
  cases dst with
  | none =>
    obtain rfl := Option.some.inj h
    exact ⟨fun _ _ => rfl, fun _ _ hc => hc⟩
  | some d =>
    simp only at h
    split at h
    · obtain rfl := Option.some.inj h
      refine ⟨fun t ht => ?_, fun _ _ hc => hc⟩
      simp only [St.get, look_cons]
      rw [if_neg (fun e => ht (by rw [e]))]
    · simp at h
theorem put_slot {d : Nat} {v : AV} (h : st.put (some d) v = some st') : st'.get d = v := by
  unfold St.put at h
  simp only at h
  split at h
  · obtain rfl := Option.some.inj h
    simp [St.get, look_cons]
  · simp at h
theorem setBox_quiet {cs : List AV} (hn : st.box nid = none) : Quiet st (st.setBox nid cs) none :=
  ⟨fun _ _ => rfl, fun id ds hd => by
    simp only [St.box, St.setBox, look_cons]
    rw [if_neg (fun e => by rw [e, hn] at hd; simp at hd)]
    exact hd⟩
theorem Quiet.trans {st1 : St} {dst : Option Nat} (h : Quiet st st1 none) (h' : Quiet st1 st' dst) : Quiet st st' dst :=
  ⟨fun t ht => (h'.1 t ht).trans (h.1 t (by simp)), fun id cs hc => h'.2 id cs (h.2 id cs hc)⟩

theorem evOpQ_op (h : evOpQ E Φ nid o st = some st') : evOp E Φ nid o st = some st' := by
  unfold evOpQ at h
  unfold evOp
  split at h
  · rename_i hop; simp only [hop]; exact h
  · rename_i hop; simp only [hop]; exact h
  · rename_i hop
    simp only [hop]
    split at h
    · exact h
    · simp at h
  · rename_i hop; simp only [hop]; exact h
  · rename_i as ts hop
    simp only [hop]
    split at h
    · split at h
      · rename_i s x t u h1 h2 _ hnil
        rw [hnil]
        exact h
      · simp at h
    · simp at h
  · rename_i f as ats hop
    simp only [hop]
    split at h
    · rename_i n caps hf
      split at h
      · simp at h
      · rename_i hk
        simp only [if_neg hk]
        split at h
        · rename_i hm
          rw [if_pos hm]
          obtain ⟨⟨v, ids⟩, hv, hp⟩ := Option.bind_eq_some_iff.1 h
          refine Option.bind_eq_some_iff.2 ⟨(v, ids), hv, ?_⟩
          simp only at hp ⊢
          cases ids with
          | nil => exact hp
          | cons => simp at hp
        · simp at h
    · simp at h
  · simp at h

theorem evOpQ_quiet (hn : st.box nid = none) (h : evOpQ E Φ nid o st = some st') : Quiet st st' o.dst := by
  unfold evOpQ at h
  split at h
  · unfold evAlloc at h
    obtain ⟨ti, _, h⟩ := Option.bind_eq_some_iff.1 h
    obtain ⟨z, _, h⟩ := Option.bind_eq_some_iff.1 h
    obtain ⟨cs, _, h⟩ := Option.bind_eq_some_iff.1 h
    exact (setBox_quiet hn).trans (put_quiet h)
  · unfold evBox at h
    split at h
    · exact (setBox_quiet hn).trans (put_quiet h)
    · simp at h
  · split at h
    · rename_i hr
      unfold evBuildSlice at h
      split at h
      · obtain ⟨ti, _, h⟩ := Option.bind_eq_some_iff.1 h
        obtain ⟨te, _, h⟩ := Option.bind_eq_some_iff.1 h
        obtain ⟨xs, _, h⟩ := Option.bind_eq_some_iff.1 h
        split at h
        · rw [List.flatMap_map, hr] at h
          exact put_quiet h
        · simp at h
      · simp at h
    · simp at h
  · unfold evMakeSlice at h
    split at h
    · obtain ⟨ti, _, h⟩ := Option.bind_eq_some_iff.1 h
      obtain ⟨te, _, h⟩ := Option.bind_eq_some_iff.1 h
      obtain ⟨xs, _, h⟩ := Option.bind_eq_some_iff.1 h
      split at h
      · split at h
        · exact put_quiet h
        · simp at h
      · simp at h
    · simp at h
  · split at h
    · split at h
      · unfold evAppend at h
        split at h
        · obtain ⟨ti, _, h⟩ := Option.bind_eq_some_iff.1 h
          obtain ⟨te, _, h⟩ := Option.bind_eq_some_iff.1 h
          obtain ⟨ys, _, h⟩ := Option.bind_eq_some_iff.1 h
          split at h
          · simp only at h
            split at h
            · exact put_quiet h
            · simp at h
          · simp at h
        · simp at h
      · simp at h
    · simp at h
  · split at h
    · split at h
      · simp at h
      · split at h
        · obtain ⟨⟨v, ids⟩, hv, hp⟩ := Option.bind_eq_some_iff.1 h
          simp only at hp
          cases ids with
          | nil => exact put_quiet hp
          | cons => simp at hp
        · simp at h
    · simp at h
  · simp at h

theorem evOp_free (hc : isEff o.op = false) : evOp E Φ nid o st = (evFree E Φ st.box nid st.val o.op).bind fun (v, _) => st.put o.dst v := by
  unfold evOp
  split
  all_goals first
    | (rename_i hop; rw [hop] at hc; simp [isEff] at hc; done)
    | rfl
theorem eff_call (hc : isEff o.op = false) : isCallV o.op = false := by
  unfold isCallV
  split
  · rename_i hop; rw [hop] at hc; simp [isEff] at hc
  · rfl
end
end Go.Proofs.Ytgckhjcfcandmaa.Flat
