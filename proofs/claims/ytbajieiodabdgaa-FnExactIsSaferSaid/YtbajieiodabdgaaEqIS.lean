/-
IsSafer.
-/
import Derived.Test.YtbajieiodabdgaaEqCF
set_option linter.unusedVariables false
set_option linter.unusedSimpArgs false
set_option maxRecDepth 10000
namespace Go.Proofs.Ytbajieiodabdgaa.Flat
/-! ### leaves, gathered in whatever order -/
noncomputable def addC (out : List Cond) (c : Cond) : List Cond := if (out.any fun own => decide (own = c)) = true then out else out ++ [c]
def isLf (x : Cond) : Bool := inR x.op 2 6 && ((x.args.length : Int) == 0)
mutual
noncomputable def lv : Cond → List Cond
  | ⟨o, a, b, s⟩ => (if isLf ⟨o, a, b, s⟩ = true then [⟨o, a, b, s⟩] else []) ++ lvs s
noncomputable def lvs : List Cond → List Cond
  | [] => []
  | c :: r => lv c ++ lvs r
end
theorem lv_eq (x : Cond) : lv x = (if isLf x = true then [x] else []) ++ lvs x.args := by
  cases x
  simp -implicitDefEqProofs only [lv]
theorem addLeaf_eq (x : Cond) (out : List Cond) : addLeaf x out = (if isLf x = true then [x] else []).foldl addC out := by
  unfold addLeaf isLf
  cases h : (inR x.op 2 6 && ((x.args.length : Int) == 0))
  · simp
  · simp -implicitDefEqProofs only [Bool.true_and, if_true, List.foldl_cons, List.foldl_nil, addC]
    cases out.any fun own => decide (own = x) <;> simp
theorem gather_foldl (x : Cond) : ∀ out, gather x out = (lv x).foldl addC out := by
  induction x using Cond.induct with
  | h x ih =>
    intro out
    have h : ∀ (s : List Cond), (∀ d ∈ s, d ∈ x.args) → ∀ out, gathers s out = (lvs s).foldl addC out := by
      intro s
      induction s with
      | nil => intro _ out; simp [gathers, lvs]
      | cons c r ihr =>
        intro hs out
        simp -implicitDefEqProofs only [gathers, lvs, List.foldl_append]
        rw [ih c (hs c (by simp)), ihr (fun d hd => hs d (List.mem_cons_of_mem _ hd))]
    rw [gather_eq, lv_eq, List.foldl_append, h x.args (fun d hd => hd), addLeaf_eq]
noncomputable def lvsFor (a o : Int) : List Rule → List Cond
  | [] => []
  | r :: rs => (if isFor r a o = true then lv r.cond else []) ++ lvsFor a o rs
theorem atomsL_foldl (a o : Int) : ∀ (s : List Rule) (out : List Cond), atomsL a o s out = (lvsFor a o s).foldl addC out
  | [], out => rfl
  | c :: r, out => by
    simp -implicitDefEqProofs only [atomsL, lvsFor, List.foldl_append]
    rw [atomsL_foldl a o r]
    cases isFor c a o
    · simp
    · simp -implicitDefEqProofs only [if_true]; rw [gather_foldl]
theorem addC_mem {out : List Cond} {c d : Cond} (h : d ∈ out) : d ∈ addC out c := by
  unfold addC
  split
  · exact h
  · exact List.mem_append_left _ h
theorem foldl_mem (l : List Cond) : ∀ (out : List Cond) (d : Cond), d ∈ out → d ∈ l.foldl addC out := by
  induction l with
  | nil => intro out d h; exact h
  | cons c r ih => intro out d h; exact ih _ _ (addC_mem h)
theorem mem_foldl (l : List Cond) : ∀ (out : List Cond) (d : Cond), d ∈ l → d ∈ l.foldl addC out := by
  induction l with
  | nil => intro out d h; simp at h
  | cons c r ih =>
    intro out d h
    rcases List.mem_cons.1 h with rfl | h
    · refine foldl_mem r _ _ ?_
      unfold addC
      split
      · rename_i h2
        obtain ⟨y, hy, he⟩ := List.any_eq_true.1 h2
        rw [decide_eq_true_eq] at he
        exact he ▸ hy
      · simp
    · exact ih _ _ h
theorem addC_in {out : List Cond} {c : Cond} (h : c ∈ out) : addC out c = out := if_pos (List.any_eq_true.2 ⟨c, h, by simp⟩)
theorem foldl_twice (l : List Cond) : ∀ (m out : List Cond), (l.foldl addC m).foldl addC out = l.foldl addC (m.foldl addC out) := by
  induction l with
  | nil => intro m out; rfl
  | cons c r ih =>
    intro m out
    simp -implicitDefEqProofs only [List.foldl_cons]
    rw [ih]
    congr 1
    by_cases h : (m.any fun own => decide (own = c)) = true
    · have hm : c ∈ m := by
        obtain ⟨y, hy, he⟩ := List.any_eq_true.1 h
        rw [decide_eq_true_eq] at he
        exact he ▸ hy
      rw [addC_in hm, addC_in (mem_foldl m out c hm)]
    · have : addC m c = m ++ [c] := if_neg h
      rw [this, List.foldl_append]
      rfl
/-- Rows of leaves alone. -/
def Lf (l : List Cond) : Prop := ∀ c ∈ l, isLf c = true
theorem lf_nil {c : Cond} (h : isLf c = true) : c.args = [] := by
  unfold isLf at h
  rw [Bool.and_eq_true] at h
  exact leaf_nil h.2
theorem gathers_lf : ∀ (l out : List Cond), Lf l → gathers l out = l.foldl addC out
  | [], out, _ => rfl
  | c :: r, out, h => by
    have hc := h c (by simp)
    simp -implicitDefEqProofs only [gathers, List.foldl_cons]
    rw [gather_foldl, lv_eq, lf_nil hc, hc, gathers_lf r _ (fun d hd => h d (List.mem_cons_of_mem _ hd))]
    rfl
theorem lv_lf (x : Cond) : Lf (lv x) := by
  induction x using Cond.induct with
  | h x ih =>
    have h : ∀ (s : List Cond), (∀ d ∈ s, d ∈ x.args) → Lf (lvs s) := by
      intro s
      induction s with
      | nil => intro _ c hc; simp [lvs] at hc
      | cons c r ihr =>
        intro hs d hd
        simp -implicitDefEqProofs only [lvs, List.mem_append] at hd
        rcases hd with hd | hd
        · exact ih c (hs c (by simp)) d hd
        · exact ihr (fun e he => hs e (List.mem_cons_of_mem _ he)) d hd
    intro d hd
    rw [lv_eq, List.mem_append] at hd
    rcases hd with hd | hd
    · split at hd
      · rename_i hx; rw [List.mem_singleton] at hd; exact hd ▸ hx
      · simp at hd
    · exact h x.args (fun e he => he) d hd
theorem lvsFor_lf (a o : Int) : ∀ s, Lf (lvsFor a o s)
  | [] => fun c hc => by simp [lvsFor] at hc
  | r :: rs => by
    intro d hd
    simp -implicitDefEqProofs only [lvsFor, List.mem_append] at hd
    rcases hd with hd | hd
    · split at hd
      · exact lv_lf r.cond d hd
      · simp at hd
    · exact lvsFor_lf a o rs d hd
theorem foldl_lf (l : List Cond) (hl : Lf l) : ∀ out, Lf out → Lf (l.foldl addC out) := by
  induction l with
  | nil => intro out h; exact h
  | cons c r ih =>
    intro out h
    refine ih (fun d hd => hl d (List.mem_cons_of_mem _ hd)) _ ?_
    unfold addC
    split
    · exact h
    · intro d hd
      rcases List.mem_append.1 hd with hd | hd
      · exact h d hd
      · rw [List.mem_singleton] at hd; exact hd ▸ hl c (by simp)
theorem atomsOf_lf (p : Policy) (a o : Int) : Lf (atomsOf p a o) := by
  unfold atomsOf
  rw [atomsL_foldl]
  exact foldl_lf _ (lvsFor_lf a o _) _ (fun c hc => by simp at hc)
/-- The reference joins two rows of atoms; the program goes on gathering. -/
theorem join_eq (p q : Policy) (a o : Int) : gathers (atomsOf q a o) (gathers (atomsOf p a o) []) = atomsL a o q.rules (atomsOf p a o) := by
  rw [gathers_lf _ _ (atomsOf_lf q a o), gathers_lf _ _ (atomsOf_lf p a o), atomsL_foldl]
  unfold atomsOf
  rw [atomsL_foldl, atomsL_foldl, foldl_twice, foldl_twice]
  rfl
end Go.Proofs.Ytbajieiodabdgaa.Flat
