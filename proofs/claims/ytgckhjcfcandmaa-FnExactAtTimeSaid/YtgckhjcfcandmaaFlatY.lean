/-
A region whose order the machine may choose: the order of the plan stands for all.
-/
import Derived.Test.YtgckhjcfcandmaaFlatX
set_option linter.unusedVariables false
set_option linter.unusedSimpArgs false
namespace Go.Proofs.Ytgckhjcfcandmaa.Flat

theorem look_mem {α : Type} {i : Nat} {l : List (Nat × α)} {v : α} (h : look i l = some v) : (i, v) ∈ l := by
  induction l with
  | nil => simp [look] at h
  | cons p r ih =>
    obtain ⟨j, u⟩ := p
    rw [look_cons] at h
    split at h
    · rename_i e; subst e; obtain rfl := Option.some.inj h; exact List.mem_cons_self
    · exact List.mem_cons_of_mem _ (ih h)
theorem look_isSome {α : Type} {i : Nat} {l : List (Nat × α)} (h : (look i l).isSome = true) : ∃ v, (i, v) ∈ l := by
  obtain ⟨v, hv⟩ := Option.isSome_iff_exists.1 h
  exact ⟨v, look_mem hv⟩

section
variable {E : Env} {Φ : Phi} {ops : Array Oper} {L : Nat → Prop}

/-- Whatever binds an operation that has been run has been run. -/
def Closed (ops : Array Oper) (L : Nat → Prop) : Prop := ∀ i o, L i → ops[i]? = some o → ∀ d ∈ deps o, L d
def Tab (ops : Array Oper) (seen : List (Nat × List Nat)) : Prop := ∀ i l, look i seen = some l → ∀ L : Nat → Prop, Closed ops L → L i → ∀ j ∈ l, L j
/-- Whoever writes what o looks at has been run ahead of it. -/
def Cov (ops : Array Oper) (o : Oper) : Prop := ∀ L : Nat → Prop, Closed ops L → (∀ d ∈ deps o, L d) → ∀ j q t, ops[j]? = some q → q.dst = some t → t ∈ o.looksAt ops → L j
def Topo (ops : Array Oper) : List (Nat × List Nat) → Prop
  | [] => True
  | (i, _) :: r => (∃ o, ops[i]? = some o ∧ ∀ d ∈ deps o, (look d r).isSome = true) ∧ Topo ops r

theorem mem_dedupN {i : Nat} : ∀ {l : List Nat}, i ∈ dedupN l → i ∈ l
  | [], h => h
  | j :: r, h => by
    simp only [dedupN] at h
    split at h
    · exact List.mem_cons_of_mem _ (mem_dedupN h)
    · rcases List.mem_cons.1 h with rfl | h
      · exact List.mem_cons_self
      · exact List.mem_cons_of_mem _ (mem_dedupN h)

theorem anc_in {seen : List (Nat × List Nat)} {o : Oper} (ht : Tab ops seen) (hc : Closed ops L) (hd : ∀ d ∈ deps o, L d) : ∀ j ∈ ancOf seen o, L j := by
  intro j hj
  have := mem_dedupN hj
  rcases List.mem_append.1 this with h | h
  · exact hd j h
  · obtain ⟨d, h1, h2⟩ := List.mem_flatMap.1 h
    cases hl : look d seen with
    | none => rw [hl] at h2; simp at h2
    | some l => rw [hl] at h2; exact ht d l hl L hc (hd d h1) j h2

theorem Tab.cons {seen : List (Nat × List Nat)} {i : Nat} {o : Oper} (ht : Tab ops seen) (ho : ops[i]? = some o) : Tab ops ((i, ancOf seen o) :: seen) := by
  intro j l hl L hc hj
  rw [look_cons] at hl
  split at hl
  · rename_i e
    subst e
    obtain rfl := Option.some.inj hl
    exact anc_in ht hc (hc j o hj ho)
  · exact ht j l hl L hc hj

/-- What the plan's check says of its first operation. -/
structure Head (ops : Array Oper) (q : Bool) (i : Nat) (r : List (Bool × Nat)) (seen : List (Nat × List Nat)) (last : Option Nat) (o : Oper) : Prop where
  dep : ∀ d ∈ deps o, (look d seen).isSome = true
  new : look i seen = none
  chain : ∀ e, last = some e → e ∈ ancOf seen o
  reads : ∀ j p t, ops[j]? = some p → p.dst = some t → t ∈ o.looksAt ops → j ∈ ancOf seen o
  war : ∀ j, (look j seen).isSome = true → ∃ p, ops[j]? = some p ∧ ∀ t, o.dst = some t → t ∉ p.looksAt ops ∧ p.dst ≠ some t
  self : ∀ t, o.dst = some t → t ∉ o.looksAt ops
  pure : isEff o.op = false → q = false ∧ ∃ d, o.dst = some d
  eff : isEff o.op = true → q = true ∨ ∀ j p, (look j seen).isSome = true → ops[j]? = some p → j ∈ ancOf seen o ∨ isEff p.op = true
  tail : planOK ops r ((i, ancOf seen o) :: seen) (if isEff o.op then some i else last) = true

theorem dstIn_false {l : List Nat} {d : Option Nat} (h : (!dstIn l d) = true) (t : Nat) (ht : d = some t) : t ∉ l := by
  subst ht
  simpa [dstIn] using h

theorem planOK_head {q : Bool} {i : Nat} {r : List (Bool × Nat)} {seen : List (Nat × List Nat)} {last : Option Nat} (h : planOK ops ((q, i) :: r) seen last = true) : ∃ o, ops[i]? = some o ∧ Head ops q i r seen last o := by
  simp only [planOK] at h
  split at h
  · simp at h
  · rename_i o ho
    simp only [Bool.and_eq_true] at h
    obtain ⟨⟨⟨⟨⟨⟨⟨h1, h2⟩, h3⟩, h4⟩, h5⟩, h6⟩, h7⟩, h8⟩ := h
    refine ⟨o, ho, ?_, ?_, ?_, ?_, ?_, ?_, ?_, ?_, h8⟩
    · exact fun d hd => List.all_eq_true.1 h1 d hd
    · cases hl : look i seen with
      | none => rfl
      | some l => rw [hl] at h2; simp at h2
    · intro e he
      subst he
      simpa using h3
    · intro j p t hj hp ht
      have hjs : j < ops.size := (Array.getElem?_eq_some_iff.1 hj).1
      have := List.all_eq_true.1 h4 j (List.mem_range.2 hjs)
      rw [hj] at this
      simp only [Bool.or_eq_true] at this
      rcases this with h | h
      · exact absurd ht (dstIn_false h t hp)
      · simpa using h
    · intro j hj
      obtain ⟨l, hl⟩ := look_isSome hj
      have := List.all_eq_true.1 h5 _ hl
      simp only at this
      split at this
      · rename_i p hp
        refine ⟨p, hp, fun t ht => ?_⟩
        simp only [Bool.and_eq_true, Bool.or_eq_true] at this
        refine ⟨dstIn_false this.1 t ht, fun e => ?_⟩
        rcases this.2 with h | h
        · rw [ht] at h; simp at h
        · rw [ht, e] at h; simp at h
      · simp at this
    · exact fun t ht => dstIn_false h6 t ht
    · intro he
      rw [he] at h7
      simp only [Bool.false_eq_true, if_false, Bool.and_eq_true, Bool.not_eq_true'] at h7
      exact ⟨h7.1, Option.isSome_iff_exists.1 h7.2⟩
    · intro he
      rw [he] at h7
      simp only [if_true, Bool.or_eq_true] at h7
      refine h7.imp id fun h j p hj hp => ?_
      obtain ⟨l, hl⟩ := look_isSome hj
      have := List.all_eq_true.1 h _ hl
      simp only at this
      rw [hp] at this
      simp only [Bool.or_eq_true] at this
      exact this.imp (fun h => by simpa using h) id

theorem planOK_all : ∀ {ρ : List (Bool × Nat)} {seen : List (Nat × List Nat)} {last : Option Nat}, planOK ops ρ seen last = true → ∀ i, i < ops.size → (look i seen).isSome = true ∨ ∃ q, (q, i) ∈ ρ
  | [], seen, last, h, i, hi => by
    simp only [planOK] at h
    exact .inl (List.all_eq_true.1 h i (List.mem_range.2 hi))
  | (q, j) :: r, seen, last, h, i, hi => by
    obtain ⟨o, ho, hh⟩ := planOK_head h
    rcases planOK_all hh.tail i hi with h1 | ⟨q', h1⟩
    · rw [look_cons] at h1
      split at h1
      · rename_i e; subst e; exact .inr ⟨q, List.mem_cons_self⟩
      · exact .inl h1
    · exact .inr ⟨q', List.mem_cons_of_mem _ h1⟩

theorem planOK_later (hc : Closed ops L) : ∀ {ρ : List (Bool × Nat)} {seen : List (Nat × List Nat)} {e : Nat}, planOK ops ρ seen (some e) = true → Tab ops seen → ∀ q i o, (q, i) ∈ ρ → ops[i]? = some o → (∀ d ∈ deps o, L d) → L e
  | [], _, _, _, _, q, i, o, hm, _, _ => by simp at hm
  | (q', i') :: r, seen, e, h, ht, q, i, o, hm, ho, hd => by
    obtain ⟨o', ho', hh⟩ := planOK_head h
    rcases List.mem_cons.1 hm with h1 | h1
    · obtain ⟨rfl, rfl⟩ := Prod.mk.inj h1
      obtain rfl : o = o' := by rw [ho] at ho'; exact Option.some.inj ho'
      exact anc_in ht hc hd e (hh.chain e rfl)
    · have h2 := hh.tail
      cases he : isEff o'.op with
      | false =>
        rw [he] at h2
        exact planOK_later hc h2 (ht.cons ho') q i o h1 ho hd
      | true =>
        rw [he] at h2
        have := planOK_later hc h2 (ht.cons ho') q i o h1 ho hd
        exact anc_in ht hc (hc i' o' this ho') e (hh.chain e rfl)

theorem Head.cov {q : Bool} {i : Nat} {r : List (Bool × Nat)} {seen : List (Nat × List Nat)} {last : Option Nat} {o : Oper} (h : Head ops q i r seen last o) (ht : Tab ops seen) : Cov ops o :=
  fun _ hc hd j q t hj hq hm => anc_in ht hc hd j (h.reads j q t hj hq hm)

/-- An operation that the plan has run, and the machine has not: it would come to what the plan tells. -/
def Stable (E : Env) (Φ : Phi) (ops : Array Oper) (V : St) (o : Oper) : Prop :=
  ∃ d, o.dst = some d ∧ isCallV o.op = false ∧ ((wanted ops.toList o V = some true ∧ ∃ n v ids, evFree E Φ V.box n V.val o.op = some (v, ids) ∧ V.get d = v) ∨ (wanted ops.toList o V = some false ∧ V.get d = .undef))

theorem wanted_congr {V V' : St} {o : Oper} (h : ∀ t ∈ o.looksAt ops, V'.get t = V.get t) : wanted ops.toList o V' = wanted ops.toList o V := by
  unfold wanted
  split
  · rfl
  · rename_i j b hg
    split
    · rename_i d hd
      have : d ∈ o.looksAt ops := by
        unfold Oper.looksAt
        rw [hg]
        refine List.mem_append_right _ ?_
        simp only [Array.getElem?_toList] at hd
        simp [hd]
      rw [h d this]
    · rfl

theorem looks_tmps {o : Oper} {t : Nat} (h : t ∈ tmpsOf o.op) : t ∈ o.looksAt ops := List.mem_append_left _ h

theorem Stable.mono {V V' : St} {o : Oper} {dst : Option Nat} (h : Stable E Φ ops V o) (hq : Quiet V V' dst) (hd : ∀ t, dst = some t → t ∉ o.looksAt ops ∧ o.dst ≠ some t) : Stable E Φ ops V' o := by
  obtain ⟨d, h1, h2, h3⟩ := h
  have hg : ∀ t ∈ o.looksAt ops, V'.get t = V.get t := fun t ht => hq.1 t fun e => (hd t e).1 ht
  have hgd : V'.get d = V.get d := hq.1 d fun e => (hd d e).2 h1
  refine ⟨d, h1, h2, ?_⟩
  rw [wanted_congr hg, hgd]
  refine h3.imp (fun ⟨h4, n, v, ids, h5, h6⟩ => ⟨h4, n, v, ids, ?_, h6⟩) id
  exact evFree_congr h2 hq.2 (val_congr fun t ht => hg t (looks_tmps ht)) h5
end
end Go.Proofs.Ytgckhjcfcandmaa.Flat
