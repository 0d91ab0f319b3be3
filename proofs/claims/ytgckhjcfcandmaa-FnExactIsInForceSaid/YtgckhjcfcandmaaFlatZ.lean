/-
A region whose order the machine may choose: all orders.
-/
import Derived.Test.YtgckhjcfcandmaaFlatY
set_option linter.unusedVariables false
set_option linter.unusedSimpArgs false
namespace Go.Proofs.Ytgckhjcfcandmaa.Flat
section
variable {E : Env} {Φ : Phi} {ops : Array Oper} {st' : St} {X : Nat → Prop}

/-- How far the plan has come, and the machine. L: what the machine has run. V, b: behind the plan's part; a: the machine's frame. -/
structure Vir (E : Env) (Φ : Phi) (ops : Array Oper) (X : Nat → Prop) (st' : St) (N : Nat) (L : Nat → Prop) (a : Act) (w : World) (G : Gh)
    (ρ : List (Bool × Nat)) (seen : List (Nat × List Nat)) (last : Option Nat) (nid : Nat) (V : St) (b : Act) : Prop where
  plan : planOK ops ρ seen last = true
  tab : Tab ops seen
  cov : ∀ i o, (look i seen).isSome = true → ops[i]? = some o → Cov ops o
  topo : Topo ops seen
  Lin : ∀ i, L i → (look i seen).isSome = true
  eff : ∀ i o, (look i seen).isSome = true → ops[i]? = some o → isEff o.op = true → L i
  closed : Closed ops L
  rel : Rel V b w G X (fun i => nid ≤ i)
  ev : evPlan E Φ ops.toList ρ nid V = some st'
  count : nid + 8 * ρ.length = N
  defers : a.defers = b.defers
  size : a.tmps.size = b.tmps.size
  agree : ∀ t, (∀ i o, (look i seen).isSome = true → ¬ L i → ops[i]? = some o → o.dst ≠ some t) → a.tmps[t]? = b.tmps[t]?
  stab : ∀ i o, (look i seen).isSome = true → ¬ L i → ops[i]? = some o → Stable E Φ ops V o

def AtEff (ops : Array Oper) (ρ : List (Bool × Nat)) : Prop := ρ = [] ∨ ∃ q i r o, ρ = (q, i) :: r ∧ ops[i]? = some o ∧ isEff o.op = true

theorem put_getElem? {a : Act} {d t : Nat} {v : Value} : (a.put (some d) v).tmps[t]? = if d = t then (if t < a.tmps.size then some v else none) else a.tmps[t]? := by
  simp only [Act.put]
  rw [Array.getElem?_setIfInBounds]
  split
  · rename_i e; subst e; rfl
  · rfl

theorem actPut_size {a : Act} {d : Option Nat} {v : Value} : (a.put d v).tmps.size = a.tmps.size := by cases d <;> simp [Act.put]
theorem actPut_defers {a : Act} {d : Option Nat} {v : Value} : (a.put d v).defers = a.defers := by cases d <;> rfl

/-- What stands in a slot already is written there again. -/
theorem Rel.reput {V : St} {b : Act} {w : World} {G : Gh} {F : Nat → Prop} (h : Rel V b w G X F) {d : Nat} {v : Value} (hv : RV w G (V.get d) v) : Rel V (b.put (some d) v) w G X F :=
  ⟨by rw [actPut_size]; exact h.size, by rw [actPut_defers]; exact h.defers, fun i => by
    rw [Array.getD_eq_getD_getElem?, put_getElem?]
    have hi := h.slot i
    rw [Array.getD_eq_getD_getElem?] at hi
    split
    · rename_i e
      subst e
      split
      · exact hv
      · rename_i hlt
        rw [Array.getElem?_eq_none (by omega)] at hi
        exact hi
    · exact hi, h.box, h.inv, h.free⟩

theorem eval_agree {a b : Act} {x : Operand} (h : ∀ t, x = .tmp t → a.tmps[t]? = b.tmps[t]?) : a.eval x = b.eval x := by
  cases x with
  | tmp t => simp only [Act.eval, Array.getD_eq_getD_getElem?]; rw [h t rfl]
  | _ => rfl
theorem exec_agree {o : Oper} {a b : Act} (hs : ∀ cs t, o.op ≠ .select cs t) (h : ∀ t ∈ o.looksAt ops, a.tmps[t]? = b.tmps[t]?) : execOp a.eval o = execOp b.eval o :=
  execOp_congr o hs fun x hx => eval_agree fun t ht => h t (List.mem_append_left _ (List.mem_filterMap.2 ⟨.tmp t, by subst ht; simpa using hx, rfl⟩))
theorem yielded_agree {o : Oper} {a b : Act} (h : ∀ t ∈ o.looksAt ops, a.tmps[t]? = b.tmps[t]?) : Region.wanted o (yielded ops a.tmps) = Region.wanted o (yielded ops b.tmps) := by
  unfold Region.wanted
  split
  · rfl
  · rename_i j u hg
    have : yielded ops a.tmps j = yielded ops b.tmps j := by
      unfold yielded
      cases hd : (ops[j]?).bind (·.dst) with
      | none => rfl
      | some d =>
        have : d ∈ o.looksAt ops := by
          unfold Oper.looksAt
          rw [hg]
          exact List.mem_append_right _ (by simp [hd])
        simp only [Option.bind_some]
        rw [h d this]
    rw [this]

theorem mem_ready {listed : Array Bool} {i : Nat} (hs : listed.size = ops.size) : i ∈ Region.ready .any ops listed ↔ i < ops.size ∧ listed.getD i false ≠ true ∧ ∃ o, ops[i]? = some o ∧ ∀ d ∈ deps o, listed.getD d false = true := by
  unfold Region.ready
  simp only [List.mem_filter, List.mem_range, Bool.and_eq_true, Bool.not_eq_true']
  constructor
  · rintro ⟨h1, h2, h3⟩
    have hi : i < listed.size := by omega
    refine ⟨h1, ?_, ?_⟩
    · rw [Array.getD_eq_getD_getElem?, Array.getElem?_eq_getElem hi] at h2 ⊢
      simpa using h2
    · rw [Array.getElem?_eq_getElem h1] at h3 ⊢
      refine ⟨_, rfl, fun d hd => ?_⟩
      simp only [Option.map_some, Option.getD_some] at h3
      unfold deps at hd
      obtain ⟨e, he1, he2⟩ := List.mem_filterMap.1 hd
      have := Array.all_eq_true_iff_forall_mem.1 h3 e (by simpa using he1)
      split at he2
      · rename_i hb
        obtain rfl := Option.some.inj he2
        simpa [hb] using this
      · simp at he2
  · rintro ⟨h1, h2, o, h3, h4⟩
    have hi : i < listed.size := by omega
    refine ⟨h1, ?_, ?_⟩
    · rw [Array.getD_eq_getD_getElem?, Array.getElem?_eq_getElem hi] at h2 ⊢
      simpa using h2
    · rw [h3]
      simp only [Option.map_some, Option.getD_some]
      refine Array.all_eq_true_iff_forall_mem.2 fun e he => ?_
      cases hb : Region.binds .any e with
      | false => rfl
      | true =>
        have := h4 e.on (by unfold deps; exact List.mem_filterMap.2 ⟨e, by simpa using he, by simp [hb]⟩)
        simp [this]

section
variable {N : Nat} {L : Nat → Prop} {a : Act} {w : World} {G : Gh} {ρ : List (Bool × Nat)} {seen : List (Nat × List Nat)} {last : Option Nat} {nid : Nat} {V : St} {b : Act}

/-- What an operation looks at that may be run: as in the plan. -/
theorem Vir.looks (h : Vir E Φ ops X st' N L a w G ρ seen last nid V b) {o : Oper} (hc : Cov ops o) (hd : ∀ d ∈ deps o, L d) : ∀ t ∈ o.looksAt ops, a.tmps[t]? = b.tmps[t]? :=
  fun t ht => h.agree t fun i p _ hn hp hdst => hn (hc L h.closed hd i p t hp hdst ht)

theorem cov_cons {seen : List (Nat × List Nat)} (hcov : ∀ i o, (look i seen).isSome = true → ops[i]? = some o → Cov ops o) {i : Nat} {l : List Nat} {o : Oper} (ho : ops[i]? = some o) (hc : Cov ops o) :
    ∀ j p, (look j ((i, l) :: seen)).isSome = true → ops[j]? = some p → Cov ops p := by
  intro j p hj hp
  rw [look_cons] at hj
  split at hj
  · rename_i e
    subst e
    obtain rfl : o = p := by rw [ho] at hp; exact Option.some.inj hp
    exact hc
  · exact hcov j p hj hp
theorem in_cons {seen : List (Nat × List Nat)} {i j : Nat} {l : List Nat} (h : (look j ((i, l) :: seen)).isSome = true) : j = i ∨ (look j seen).isSome = true := by
  rw [look_cons] at h
  split at h
  · rename_i e; exact .inl e
  · exact .inr h
theorem in_tail {seen : List (Nat × List Nat)} {i j : Nat} {l : List Nat} (h : (look j seen).isSome = true) : (look j ((i, l) :: seen)).isSome = true := by
  rw [look_cons]
  split
  · rfl
  · exact h

/-- One operation of the plan that the machine need not have run yet. -/
theorem Vir.pure1 {q : Bool} {i : Nat} {r : List (Bool × Nat)} {o : Oper} (h : Vir E Φ ops X st' N L a w G ((q, i) :: r) seen last nid V b) (ho : ops[i]? = some o) (he : isEff o.op = false) :
    ∃ V' b', Vir E Φ ops X st' N L a w G r ((i, ancOf seen o) :: seen) last (nid + 8) V' b' := by
  obtain ⟨o', ho', hh⟩ := planOK_head h.plan
  obtain rfl : o = o' := by rw [ho] at ho'; exact Option.some.inj ho'
  obtain ⟨hq, d, hd⟩ := hh.pure he
  subst hq
  have hev := h.ev
  simp only [evPlan, Array.getElem?_toList, ho, Option.bind_some] at hev
  obtain ⟨t, hw, hev⟩ := Option.bind_eq_some_iff.1 hev
  have hnL : ¬ L i := fun hl => by have := h.Lin i hl; rw [hh.new] at this; simp at this
  have hself : ∀ t, o.dst = some t → t ∉ o.looksAt ops := hh.self
  -- the state behind it
  have key : ∃ V' v cv, V.put o.dst v = some V' ∧ RV w G v cv ∧ evPlan E Φ ops.toList r (nid + 8) V' = some st' ∧ Stable E Φ ops V' o := by
    cases t with
    | true =>
      simp only [if_true, Bool.false_eq_true, if_false] at hev
      obtain ⟨V', h1, h2⟩ := Option.bind_eq_some_iff.1 hev
      rw [evOp_free he] at h1
      obtain ⟨⟨v, ids⟩, h3, h4⟩ := Option.bind_eq_some_iff.1 h1
      obtain ⟨_, cv, _, hx⟩ := evPure_ok h.rel.sees h3 (eff_call he)
      refine ⟨V', v, cv, h4, hx, h2, ?_⟩
      have hqt := put_quiet h4
      have hg : ∀ t ∈ o.looksAt ops, V'.get t = V.get t := fun t ht => hqt.1 t fun e => hself t e ht
      refine ⟨d, hd, eff_call he, .inl ⟨by rw [wanted_congr hg]; exact hw, nid, v, ids, ?_, ?_⟩⟩
      · exact evFree_congr (eff_call he) hqt.2 (val_congr fun t ht => hg t (looks_tmps ht)) h3
      · rw [hd] at h4; exact put_slot h4
    | false =>
      simp only [Bool.false_eq_true, if_false] at hev
      obtain ⟨V', h1, h2⟩ := Option.bind_eq_some_iff.1 hev
      refine ⟨V', .undef, undef, h1, rvUndef _, h2, ?_⟩
      have hqt := put_quiet h1
      have hg : ∀ t ∈ o.looksAt ops, V'.get t = V.get t := fun t ht => hqt.1 t fun e => hself t e ht
      refine ⟨d, hd, eff_call he, .inr ⟨by rw [wanted_congr hg]; exact hw, ?_⟩⟩
      rw [hd] at h1; exact put_slot h1
  obtain ⟨V', v, cv, hput, hx, hev', hst⟩ := key
  have hqt := put_quiet hput
  refine ⟨V', b.put o.dst cv, ?_⟩
  exact {
    plan := by have := hh.tail; rw [he] at this; exact this
    tab := h.tab.cons ho
    cov := cov_cons h.cov ho (hh.cov h.tab)
    topo := ⟨⟨o, ho, hh.dep⟩, h.topo⟩
    Lin := fun j hj => in_tail (h.Lin j hj)
    eff := fun j p hj hp hep => by
      rcases in_cons hj with rfl | hj
      · obtain rfl : o = p := by rw [ho] at hp; exact Option.some.inj hp
        rw [he] at hep; simp at hep
      · exact h.eff j p hj hp hep
    closed := h.closed
    rel := ((h.rel.put hx hput).1).weaken fun i hi => by omega
    ev := hev'
    count := by have := h.count; simp only [List.length_cons] at this; omega
    defers := by rw [actPut_defers]; exact h.defers
    size := by rw [actPut_size]; exact h.size
    agree := fun t ht => by
      have hne : d ≠ t := fun e => ht i o (by rw [look_cons, if_pos rfl]; rfl) hnL ho (by rw [hd, e])
      rw [hd, put_getElem?, if_neg hne]
      exact h.agree t fun j p hj hl hp => ht j p (in_tail hj) hl hp
    stab := fun j p hj hl hp => by
      rcases in_cons hj with rfl | hj
      · obtain rfl : o = p := by rw [ho] at hp; exact Option.some.inj hp
        exact hst
      · obtain ⟨p', hp', hwar⟩ := hh.war j hj
        obtain rfl : p = p' := by rw [hp] at hp'; exact Option.some.inj hp'
        exact (h.stab j p hj hl hp).mono hqt hwar }

theorem Vir.advance : ∀ {ρ : List (Bool × Nat)} {seen : List (Nat × List Nat)} {nid : Nat} {V : St} {b : Act}, Vir E Φ ops X st' N L a w G ρ seen last nid V b →
    ∃ ρ' seen' nid' V' b', Vir E Φ ops X st' N L a w G ρ' seen' last nid' V' b' ∧ AtEff ops ρ'
  | [], seen, nid, V, b, h => ⟨[], seen, nid, V, b, h, .inl rfl⟩
  | (q, i) :: r, seen, nid, V, b, h => by
    obtain ⟨o, ho, hh⟩ := planOK_head h.plan
    cases he : isEff o.op with
    | true => exact ⟨_, _, _, _, _, h, .inr ⟨q, i, r, o, rfl, ho, he⟩⟩
    | false =>
      obtain ⟨V', b', h'⟩ := h.pure1 ho he
      exact Vir.advance h'
end
end
end Go.Proofs.Ytgckhjcfcandmaa.Flat
