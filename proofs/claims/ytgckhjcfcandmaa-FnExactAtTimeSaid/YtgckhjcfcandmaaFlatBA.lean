/-
A region whose order the machine may choose: the walk through any order.
-/
import Derived.Test.YtgckhjcfcandmaaFlatZ
set_option linter.unusedVariables false
set_option linter.unusedSimpArgs false
namespace Go.Proofs.Ytgckhjcfcandmaa.Flat
section
variable {E : Env} {Φ : Phi} {ops : Array Oper} {st' : St} {X : Nat → Prop} {N : Nat} {a : Act} {w : World} {G : Gh}

def Lst (listed : Array Bool) (i : Nat) : Prop := listed.getD i false = true

theorem topo_all {L : Nat → Prop} : ∀ {seen : List (Nat × List Nat)}, Topo ops seen → (∀ i o, ops[i]? = some o → (∀ d ∈ deps o, L d) → L i) → ∀ i, (look i seen).isSome = true → L i
  | [], _, _, i, h => by simp [look] at h
  | (j, l) :: r, ht, hr, i, h => by
    have ih := topo_all ht.2 hr
    rcases in_cons h with rfl | h
    · obtain ⟨o, ho, hd⟩ := ht.1
      exact hr i o ho fun d hd' => ih d (hd d hd')
    · exact ih i h

theorem act_eq {a b : Act} (hd : a.defers = b.defers) (ht : ∀ t : Nat, a.tmps[t]? = b.tmps[t]?) : a = b := by
  cases a; cases b
  simp only at hd ht
  subst hd
  congr 1
  exact Array.ext_getElem? ht

/-- Nothing is left to run. -/
theorem Vir.final {listed : Array Bool} {ρ : List (Bool × Nat)} {seen : List (Nat × List Nat)} {last : Option Nat} {nid : Nat} {V : St} {b : Act}
    (h : Vir E Φ ops X st' N (Lst listed) a w G ρ seen last nid V b) (hs : listed.size = ops.size) (hat : AtEff ops ρ) (hr : Region.ready .any ops listed = []) : Rel st' a w G X (fun i => N ≤ i) := by
  have hready : ∀ i o, ops[i]? = some o → (∀ d ∈ deps o, Lst listed d) → Lst listed i := by
    intro i o ho hd
    refine Classical.byContradiction fun hn => ?_
    have : i ∈ Region.ready .any ops listed := (mem_ready hs).2 ⟨(Array.getElem?_eq_some_iff.1 ho).1, hn, o, ho, hd⟩
    rw [hr] at this
    simp at this
  have hall := topo_all h.topo hready
  rcases hat with rfl | ⟨q, i, r, o, rfl, ho, he⟩
  · have hev := h.ev
    simp only [evPlan, Option.some.injEq] at hev
    subst hev
    obtain rfl : a = b := act_eq h.defers fun t => h.agree t fun i o hi hn _ => absurd (hall i hi) hn
    have := h.count
    exact h.rel.weaken fun i hi => by simp at this; omega
  · obtain ⟨o', ho', hh⟩ := planOK_head h.plan
    obtain rfl : o = o' := by rw [ho] at ho'; exact Option.some.inj ho'
    have hl := hready i o ho fun d hd => hall d (hh.dep d hd)
    have := h.Lin i hl
    rw [hh.new] at this
    simp at this

theorem lst_set {listed : Array Bool} {i j : Nat} (hi : i < listed.size) : Lst (listed.setIfInBounds i true) j ↔ j = i ∨ Lst listed j := by
  unfold Lst
  rw [Array.getD_eq_getD_getElem?, Array.getElem?_setIfInBounds, Array.getD_eq_getD_getElem?]
  by_cases h : i = j
  · subst h; simp [hi]
  · rw [if_neg h]
    constructor
    · exact .inr
    · rintro (h1 | h1)
      · exact absurd h1.symm h
      · exact h1

theorem closed_set {listed : Array Bool} {i : Nat} {o : Oper} (hi : i < listed.size) (hc : Closed ops (Lst listed)) (ho : ops[i]? = some o) (hd : ∀ d ∈ deps o, Lst listed d) : Closed ops (Lst (listed.setIfInBounds i true)) := by
  intro j p hj hp d hdp
  refine (lst_set hi).2 (.inr ?_)
  rcases (lst_set hi).1 hj with rfl | hj
  · obtain rfl : o = p := by rw [ho] at hp; exact Option.some.inj hp
    exact hd d hdp
  · exact hc j p hj hp d hdp

theorem agree_put {a b : Act} {dst : Option Nat} {v : Value} {t : Nat} (hs : a.tmps.size = b.tmps.size) (h : dst ≠ some t → a.tmps[t]? = b.tmps[t]?) : (a.put dst v).tmps[t]? = (b.put dst v).tmps[t]? := by
  cases dst with
  | none => exact h (by simp)
  | some d =>
    rw [put_getElem?, put_getElem?, hs]
    split
    · rfl
    · rename_i hne
      exact h fun e => hne (Option.some.inj e)

/-- An operation of the plan's past is run. -/
theorem Vir.pending {listed : Array Bool} {ρ : List (Bool × Nat)} {seen : List (Nat × List Nat)} {last : Option Nat} {nid : Nat} {V : St} {b : Act} {i : Nat} {o : Oper} {cv : Value} {d : Nat}
    (h : Vir E Φ ops X st' N (Lst listed) a w G ρ seen last nid V b) (hi : i < listed.size) (ho : ops[i]? = some o) (hd : ∀ d ∈ deps o, Lst listed d) (hin : (look i seen).isSome = true) (hdst : o.dst = some d) (hx : RV w G (V.get d) cv) :
    Vir E Φ ops X st' N (Lst (listed.setIfInBounds i true)) (a.put o.dst cv) w G ρ seen last nid V (b.put o.dst cv) where
  plan := h.plan
  tab := h.tab
  cov := h.cov
  topo := h.topo
  Lin := fun j hj => by
    rcases (lst_set hi).1 hj with rfl | hj
    · exact hin
    · exact h.Lin j hj
  eff := fun j p hj hp he => (lst_set hi).2 (.inr (h.eff j p hj hp he))
  closed := closed_set hi h.closed ho hd
  rel := by rw [hdst]; exact h.rel.reput hx
  ev := h.ev
  count := h.count
  defers := by rw [actPut_defers, actPut_defers]; exact h.defers
  size := by rw [actPut_size, actPut_size]; exact h.size
  agree := fun t ht => agree_put h.size fun hne => h.agree t fun j p hj hl hp => by
    by_cases hji : j = i
    · subst hji
      obtain rfl : o = p := by rw [ho] at hp; exact Option.some.inj hp
      exact hne
    · exact ht j p hj (fun hl' => by
        rcases (lst_set hi).1 hl' with h1 | h1
        · exact hji h1
        · exact hl h1) hp
  stab := fun j p hj hl hp => h.stab j p hj (fun hl' => hl ((lst_set hi).2 (.inr hl'))) hp

/-- The plan's next effect is run. -/
theorem Vir.effect {listed : Array Bool} {q : Bool} {i : Nat} {r : List (Bool × Nat)} {seen : List (Nat × List Nat)} {last : Option Nat} {nid : Nat} {V V' : St} {b : Act} {o : Oper} {v : Value} {w' : World} {G' : Gh}
    (h : Vir E Φ ops X st' N (Lst listed) a w G ((q, i) :: r) seen last nid V b) (hi : i < listed.size) (ho : ops[i]? = some o) (he : isEff o.op = true) (hd : ∀ d ∈ deps o, Lst listed d)
    (hrel : Rel V' (b.put o.dst v) w' G' X (fun i => nid + 8 ≤ i)) (hev : evPlan E Φ ops.toList r (nid + 8) V' = some st') (hq : q = true → Quiet V V' o.dst) :
    Vir E Φ ops X st' N (Lst (listed.setIfInBounds i true)) (a.put o.dst v) w' G' r ((i, ancOf seen o) :: seen) (some i) (nid + 8) V' (b.put o.dst v) := by
  obtain ⟨o', ho', hh⟩ := planOK_head h.plan
  obtain rfl : o = o' := by rw [ho] at ho'; exact Option.some.inj ho'
  have hpend : ∀ j, (look j ((i, ancOf seen o) :: seen)).isSome = true → ¬ Lst (listed.setIfInBounds i true) j → (look j seen).isSome = true ∧ ¬ Lst listed j := by
    intro j hj hl
    refine ⟨(in_cons hj).resolve_left fun e => hl ((lst_set hi).2 (.inl e)), fun hl' => hl ((lst_set hi).2 (.inr hl'))⟩
  exact {
    plan := by have := hh.tail; rw [he] at this; exact this
    tab := h.tab.cons ho
    cov := cov_cons h.cov ho (hh.cov h.tab)
    topo := ⟨⟨o, ho, hh.dep⟩, h.topo⟩
    Lin := fun j hj => by
      rcases (lst_set hi).1 hj with rfl | hj
      · rw [look_cons, if_pos rfl]; rfl
      · exact in_tail (h.Lin j hj)
    eff := fun j p hj hp hep => (lst_set hi).2 ((in_cons hj).imp id fun hj => h.eff j p hj hp hep)
    closed := closed_set hi h.closed ho hd
    rel := hrel
    ev := hev
    count := by have := h.count; simp only [List.length_cons] at this; omega
    defers := by rw [actPut_defers, actPut_defers]; exact h.defers
    size := by rw [actPut_size, actPut_size]; exact h.size
    agree := fun t ht => agree_put h.size fun _ => h.agree t fun j p hj hl hp => by
      by_cases hji : j = i
      · subst hji; rw [hh.new] at hj; simp at hj
      · exact ht j p (in_tail hj) (fun hl' => by
          rcases (lst_set hi).1 hl' with h1 | h1
          · exact hji h1
          · exact hl h1) hp
    stab := fun j p hj hl hp => by
      obtain ⟨hj', hl'⟩ := hpend j hj hl
      rcases hh.eff he with hqt | hbar
      · obtain ⟨p', hp', hwar⟩ := hh.war j hj'
        obtain rfl : p = p' := by rw [hp] at hp'; exact Option.some.inj hp'
        exact (h.stab j p hj' hl' hp).mono (hq hqt) hwar
      · rcases hbar j p hj' hp with h1 | h1
        · exact absurd (anc_in h.tab h.closed hd j h1) hl'
        · exact absurd (h.eff j p hj' hp h1) hl' }

theorem wpAny_ok (hΦ : PhiOK E Φ) (hkill : ∀ n, E.kill n = false) (hmd : ∀ n, (E.md n).all (· == .ro) = true) {Q : Exit → Act → World → Prop} {w0 : World} {G0 : Gh}
    (hQ : ∀ a' w' G', Step false w0 w' G0 G' X → Rel st' a' w' G' X (fun i => N ≤ i) → Q .normal a' w') (hX : ∀ b, w0.heap.size ≤ b → X b) :
    ∀ (fuel : Nat) (listed : Array Bool) (a : Act) (w : World) (G : Gh) (ρ : List (Bool × Nat)) (seen : List (Nat × List Nat)) (last : Option Nat) (nid : Nat) (V : St) (b : Act),
      Vir E Φ ops X st' N (Lst listed) a w G ρ seen last nid V b → AtEff ops ρ → listed.size = ops.size → ((List.range ops.size).filter fun i => !listed.getD i false).length ≤ fuel → Step false w0 w G0 G X →
      wpAny E.P .any ops Q fuel listed a w
  | 0, listed, a, w, G, ρ, seen, last, nid, V, b, h, hat, hs, hf, hstep => by
    have hnil : Region.ready .any ops listed = [] := by
      refine List.eq_nil_iff_forall_not_mem.2 fun i hi => ?_
      obtain ⟨h1, h2, _⟩ := (mem_ready hs).1 hi
      have : i ∈ (List.range ops.size).filter fun i => !listed.getD i false := List.mem_filter.2 ⟨List.mem_range.2 h1, by simpa using h2⟩
      rw [List.eq_nil_of_length_eq_zero (Nat.le_zero.1 hf)] at this
      simp at this
    exact ⟨hnil, hQ a w G hstep (h.final hs hat hnil)⟩
  | fuel + 1, listed, a, w, G, ρ, seen, last, nid, V, b, h, hat, hs, hf, hstep => by
    refine ⟨fun hnil => hQ a w G hstep (h.final hs hat hnil), fun i hi => ?_⟩
    obtain ⟨h1, h2, o, ho, hd⟩ := (mem_ready hs).1 hi
    have hil : i < listed.size := by omega
    have hs' : (listed.setIfInBounds i true).size = ops.size := by simpa using hs
    have hf' : ((List.range ops.size).filter fun j => !(listed.setIfInBounds i true).getD j false).length ≤ fuel := by
      have hle : ((List.range ops.size).filter fun j => !(listed.setIfInBounds i true).getD j false) = ((List.range ops.size).filter fun j => !listed.getD j false).filter fun j => decide (j ≠ i) := by
        rw [List.filter_filter]
        refine List.filter_congr fun j _ => ?_
        have := lst_set (j := j) hil
        unfold Lst at this
        rw [Bool.eq_iff_iff]
        simp only [Bool.not_eq_true', Bool.and_eq_true, decide_eq_true_eq]
        rw [← Bool.not_eq_true, this, ← Bool.not_eq_true]
        exact ⟨fun h => ⟨fun e => h (.inl e), fun e => h (.inr e)⟩, fun h e => e.elim h.1 h.2⟩
      have hlt : (((List.range ops.size).filter fun j => !listed.getD j false).filter fun j => decide (j ≠ i)).length < ((List.range ops.size).filter fun j => !listed.getD j false).length :=
        List.length_filter_lt_length_iff_exists.2 ⟨i, List.mem_filter.2 ⟨List.mem_range.2 h1, by simpa using h2⟩, by simp⟩
      rw [hle]
      omega
    simp only [wpOp, ho]
    cases hin : look i seen with
    | some l =>
      have hin' : (look i seen).isSome = true := by rw [hin]; rfl
      have hlk := h.looks (h.cov i o hin' ho) hd
      obtain ⟨d, hdst, hcv, hst⟩ := h.stab i o hin' h2 ho
      rw [yielded_agree hlk]
      rcases hst with ⟨hw, n, v, ids, hev, hget⟩ | ⟨hw, hget⟩
      · rw [wanted_ok h.rel hw, if_pos rfl]
        obtain ⟨_, cv, hrun, hx⟩ := evPure_ok h.rel.sees hev hcv
        have hsel : ∀ cs t, o.op ≠ .select cs t := fun cs t e => by rw [e] at hev; simp [evFree] at hev
        refine .inl ?_
        unfold Oper.wp
        rw [exec_agree hsel hlk, hrun]
        exact wpAny_ok hΦ hkill hmd hQ hX fuel _ _ w G ρ seen last nid V (b.put o.dst cv) (h.pending hil ho hd hin' hdst (by rw [hget]; exact hx)) hat hs' hf' hstep
      · rw [wanted_ok h.rel hw, if_neg (by simp)]
        exact wpAny_ok hΦ hkill hmd hQ hX fuel _ _ w G ρ seen last nid V (b.put o.dst undef) (h.pending hil ho hd hin' hdst (by rw [hget]; exact rvUndef _)) hat hs' hf' hstep
    | none =>
      have hmem := (planOK_all h.plan i h1).resolve_left (by rw [hin]; simp)
      obtain ⟨q0, hmem⟩ := hmem
      rcases hat with rfl | ⟨q, e, r, oe, rfl, hoe, he⟩
      · simp at hmem
      · obtain ⟨oe', hoe', hh⟩ := planOK_head h.plan
        obtain rfl : oe = oe' := by rw [hoe] at hoe'; exact Option.some.inj hoe'
        have hie : i = e := by
          rcases List.mem_cons.1 hmem with h3 | h3
          · exact (Prod.mk.inj h3).2
          · have h4 := hh.tail
            rw [he, if_pos rfl] at h4
            have := planOK_later h.closed h4 (h.tab.cons hoe) q0 i o h3 ho hd
            have := h.Lin e this
            rw [hh.new] at this
            simp at this
        subst hie
        obtain rfl : o = oe := by rw [ho] at hoe; exact Option.some.inj hoe
        have hlk := h.looks (hh.cov h.tab) hd
        rw [yielded_agree hlk]
        have hev := h.ev
        simp only [evPlan, Array.getElem?_toList, ho, Option.bind_some] at hev
        obtain ⟨t, hw, hev⟩ := Option.bind_eq_some_iff.1 hev
        rw [wanted_ok h.rel hw]
        have hnbox : V.box nid = none := by
          cases hb : V.box nid with
          | none => rfl
          | some cs =>
            obtain ⟨b', _, _, h5, _⟩ := h.rel.box nid cs hb
            rw [(h.rel.free nid (Nat.le_refl _)).2] at h5
            simp at h5
        cases t with
        | true =>
          simp only [if_true] at hev ⊢
          obtain ⟨V', h5, h6⟩ := Option.bind_eq_some_iff.1 hev
          have hop : evOp E Φ nid o V = some V' := by
            split at h5
            · exact evOpQ_op h5
            · exact h5
          have hqt : q = true → Quiet V V' o.dst := fun hq => by rw [if_pos hq] at h5; exact evOpQ_quiet hnbox h5
          have hsel : ∀ cs t, o.op ≠ .select cs t := fun cs t e => by rw [e] at he; simp [isEff] at he
          refine .inl ?_
          have hy := evOp_ok h.rel (fun b hb => hX b (Nat.le_trans hstep.size hb)) (fun i h1 _ => h1) hΦ hkill hmd hop
          rw [← exec_agree hsel hlk] at hy
          refine hy.wp ?_
          rintro v w' ⟨G', hs2, hr2⟩
          obtain ⟨ρ', seen', nid', V2, b2, hv2, hat2⟩ := (h.effect hil ho he hd (hr2.weaken fun i hi => ⟨by omega, by omega⟩) h6 hqt).advance
          exact wpAny_ok hΦ hkill hmd hQ hX fuel _ _ w' G' ρ' seen' _ nid' V2 b2 hv2 hat2 hs' hf' (hstep.trans hs2)
        | false =>
          simp only [Bool.false_eq_true, if_false] at hev ⊢
          obtain ⟨V', h5, h6⟩ := Option.bind_eq_some_iff.1 hev
          obtain ⟨ρ', seen', nid', V2, b2, hv2, hat2⟩ := (h.effect hil ho he hd (((h.rel.put (rvUndef undef) h5).1).weaken fun i hi => by omega) h6 (fun _ => put_quiet h5)).advance
          exact wpAny_ok hΦ hkill hmd hQ hX fuel _ _ w G ρ' seen' _ nid' V2 b2 hv2 hat2 hs' hf' hstep
end
end Go.Proofs.Ytgckhjcfcandmaa.Flat
